/- Joined: Zj, Zl, Vm. -/
import Derived.Deep.RegionHeld3
import Derived.DeepKeys4
import Derived.MapViews
import Derived.Maps.OwnSet
import Derived.Test.YtmipkeabfglfaaaDoorJ8
import Derived.Test.YtmipkeabfglfaaaDoorJ9
import Derived.Test.YtmipkeabfglfaaaDoorJ5
import Derived.Test.YtmipkeabfglfaaaDoorJ2
import Derived.Test.YtmipkeabfglfaaaDoorJ1
/- Drawn machines: l6Step, over a valid machine. -/
namespace Go.Proofs.YtmipkeabfglfaaaDoor
open Go.ChangeShapes Go.WideShapes Go.ChangeAt Go.RowKit
open Rec (sz cs)
set_option linter.unusedVariables false
set_option maxRecDepth 100000

set_option maxHeartbeats 16000000 in
theorem l6Step_c (g p lo : Nat) (m : MachD) (a : MA) (w : World) (h : Rdr w g p) (hp : p ≤ 800000) (hg : g < lo) (hl : lo ≤ w.heap.size) (hm : MachOk m) (hx : FrM w lo m a) :
    Calls Tryd.prog 22 #[.pointer (some ⟨g, 0, none⟩), .agg #[.slice a.b m.table.buckets.length a.bc, .slice a.f m.table.frames.length a.fc, .slice a.l m.cache.lines.length a.lc, .int .i64 m.cache.hand, .int .i64 m.tags.count, .int .i64 m.tags.next, .int .i64 m.tags.round, .slice a.o m.tags.owns.length a.oc, .int .i64 m.space]] w (SomeMach g p lo 6 MachOk w) := by
  have lg := h.lt
  have HR0 := Lib.hid h
  have HMO := Lib.hid hm
  have HINB := Lib.hid hx.b.row
  have HINF := Lib.hid hx.f.row
  have HINL := Lib.hid hx.l.row
  have HINO := Lib.hid hx.o.row
  have HX := Lib.hid hx
  have hfew := hm.few
  have hft := hfew.2.1
  have hft1 := hfew.2.2.2.2.2.1
  have CEN : Hid (∀ (s : Int) (v : World), HasM v m a → Calls Tryd.prog 57 #[.agg #[.slice a.b m.table.buckets.length a.bc, .slice a.f m.table.frames.length a.fc, .slice a.l m.cache.lines.length a.lc, .int .i64 m.cache.hand, .int .i64 m.tags.count, .int .i64 m.tags.next, .int .i64 m.tags.round, .slice a.o m.tags.owns.length a.oc, .int .i64 m.space], .int .i64 s] v (StepOr v)) := Lib.hid (fun s v hv => (enterS_c m a s v hm hv hx.cap hx.capx).mono (by rintro e v' ⟨a', he, hf, hb⟩; exact ⟨_, a', _, he, fun hk => enterM_ok hm hk, hf, hb⟩))
  have CPU : Hid (∀ (s q : Int) (i : Nat) (rt : Int) (v : World), (0 ≤ s ∧ s < 3) → (0 ≤ q ∧ q < 256) → i < m.table.frames.length → (0 ≤ rt ∧ rt < 8) → HasM v m a → Calls Tryd.prog 58 #[.agg #[.slice a.b m.table.buckets.length a.bc, .slice a.f m.table.frames.length a.fc, .slice a.l m.cache.lines.length a.lc, .int .i64 m.cache.hand, .int .i64 m.tags.count, .int .i64 m.tags.next, .int .i64 m.tags.round, .slice a.o m.tags.owns.length a.oc, .int .i64 m.space], .agg #[.int .i64 (keyFor s q).space, .int .i64 (keyFor s q).page], .int .i64 i, .int .i64 rt] v (StepOr v)) := Lib.hid (fun s q i rt v h1 h2 h3 h4 hv => (putS_c m a (keyFor s q) i rt v hm hv hx.cap hx.capx (keyFor_ok (by omega) h2) (keyFor_again s q) h4 h3).mono (by rintro e v' ⟨a', he, hf, hb⟩; exact ⟨_, a', _, he, fun hk => (putM_ok hm (keyFor_ok (by omega) h2) (keyFor_again s q) h4 h3 hk).1, hf, hb⟩))
  have CTO : Hid (∀ (q n : Int) (v : World), (0 ≤ q ∧ q < 256) → (0 ≤ n ∧ n < 8) → HasM v m a → Calls Tryd.prog 61 #[.agg #[.slice a.b m.table.buckets.length a.bc, .slice a.f m.table.frames.length a.fc, .slice a.l m.cache.lines.length a.lc, .int .i64 m.cache.hand, .int .i64 m.tags.count, .int .i64 m.tags.next, .int .i64 m.tags.round, .slice a.o m.tags.owns.length a.oc, .int .i64 m.space], .int .i64 q, .int .i64 n] v (fun e v' => ∃ (n : MachD) (an : MA) (fr oc : Int), e = .returned (.tuple #[.agg #[.slice an.b n.table.buckets.length an.bc, .slice an.f n.table.frames.length an.fc, .slice an.l n.cache.lines.length an.lc, .int .i64 n.cache.hand, .int .i64 n.tags.count, .int .i64 n.tags.next, .int .i64 n.tags.round, .slice an.o n.tags.owns.length an.oc, .int .i64 n.space], .int .i64 fr, .int .i64 oc, .bool true]) ∧ (true = true → MachOk n) ∧ FrM v' v.heap.size n an ∧ Ex v v')) := Lib.hid (fun q n v h1 h2 hv => (touchS_c m a q n v hm hv hx.cap hx.capx h1 h2).mono (by rintro e v' ⟨a', oc, he, hf, _, _, hb⟩; exact ⟨_, a', _, oc, he, fun _ => (touchM_ok hm h1).1, hf, hb⟩))
  have CWI : Hid (∀ (q : Int) (v : World), (128 ≤ q ∧ q < 256) → HasM v m a → Calls Tryd.prog 62 #[.agg #[.slice a.b m.table.buckets.length a.bc, .slice a.f m.table.frames.length a.fc, .slice a.l m.cache.lines.length a.lc, .int .i64 m.cache.hand, .int .i64 m.tags.count, .int .i64 m.tags.next, .int .i64 m.tags.round, .slice a.o m.tags.owns.length a.oc, .int .i64 m.space], .int .i64 q] v (StepOr v)) := Lib.hid (fun q v h1 hv => (wirePS_c m a q v hm hv hx.cap hx.capx h1).mono (by rintro e v' ⟨a', he, hf, hb⟩; exact ⟨_, a', _, he, fun hk => wireM_ok hm h1 hk, hf, hb⟩))
  have CTA : Hid (∀ (s q : Int) (v : World), (0 ≤ s ∧ s < 3) → (0 ≤ q ∧ q < 256) → HasM v m a → Calls Tryd.prog 63 #[.agg #[.slice a.b m.table.buckets.length a.bc, .slice a.f m.table.frames.length a.fc, .slice a.l m.cache.lines.length a.lc, .int .i64 m.cache.hand, .int .i64 m.tags.count, .int .i64 m.tags.next, .int .i64 m.tags.round, .slice a.o m.tags.owns.length a.oc, .int .i64 m.space], .agg #[.int .i64 (keyFor s q).space, .int .i64 (keyFor s q).page]] v (StepOr v)) := Lib.hid (fun s q v h1 h2 hv => (takeS_c m a (keyFor s q) v hm hv hx.cap hx.capx (keyFor_ok (by omega) h2)).mono (by rintro e v' ⟨a', he, hf, hb⟩; exact ⟨_, a', _, he, fun hk => (takeM_ok hm (keyFor_ok (by omega) h2) (keyFor_again s q) hk).elim (fun _ h => h.elim (fun _ h => h.2.2.2.2.2.2.2)), hf, hb⟩))
  unfold StepOr at CEN CPU CWI CTA
  clear h hm hx hfew
  go_enter Tryd.func22, Tryd.ntmps22
  go_wp2_with fail
  refine name_calls ?_; intro v1 hv1
  have X1 : Hid (Chg (0) (0) w v1) := Lib.hid (by rw [hv1]; repeat' (first | with_reducible exact Chg.refl _ _ _ | with_reducible refine Chg.alloc ?_ _ | with_reducible refine Chg.drew ?_ | with_reducible refine Chg.set ?_ (by omega) _))
  have t1 : w.heap.size ≤ v1.heap.size := X1.out.size
  have Ev1 : Hid (Chg g (g + 1) w v1) := Lib.hid ((Chg.refl g (g + 1) w).step X1.out (by omega))
  replace HR0 := Lib.hid (HR0.out.chg X1.out (by omega))
  have KX : Hid (Blk v1 (w.heap.size) 34 [.slice a.b m.table.buckets.length a.bc, .slice a.f m.table.frames.length a.fc, .slice a.l m.cache.lines.length a.lc, .int .i64 m.cache.hand, .int .i64 m.tags.count, .int .i64 m.tags.next, .int .i64 m.tags.round, .slice a.o m.tags.owns.length a.oc, .int .i64 m.space]) := Lib.hid (by rw [hv1]; exact ((Blk.new _ _ _).alloc _).alloc _)
  have lX : w.heap.size < v1.heap.size := KX.out.lt
  have KR : Hid (Blk v1 (w.heap.size + 1) 34 [.slice none 0 0, .slice none 0 0, .slice none 0 0, .int .i64 0, .int .i64 0, .int .i64 0, .int .i64 0, .slice none 0 0, .int .i64 0]) := Lib.hid (by rw [hv1]; repeat' (first | with_reducible exact Blk.new_at _ _ _ (by simp) | with_reducible refine Blk.alloc ?_ _ | with_reducible refine Blk.drew ?_ | with_reducible refine Blk.far ?_ (by simp; omega) _))
  have lR : w.heap.size + 1 < v1.heap.size := KR.out.lt
  have KO : Hid (Blk v1 (w.heap.size + 1 + 1) 34 [.slice a.b m.table.buckets.length a.bc, .slice a.f m.table.frames.length a.fc, .slice a.l m.cache.lines.length a.lc, .int .i64 m.cache.hand, .int .i64 m.tags.count, .int .i64 m.tags.next, .int .i64 m.tags.round, .slice a.o m.tags.owns.length a.oc, .int .i64 m.space]) := Lib.hid (by rw [hv1]; repeat' (first | with_reducible exact Blk.new_at _ _ _ (by simp) | with_reducible refine Blk.alloc ?_ _ | with_reducible refine Blk.drew ?_ | with_reducible refine Blk.far ?_ (by simp; omega) _))
  have lO : w.heap.size + 1 + 1 < v1.heap.size := KO.out.lt
  clear hv1
  refine (pick_c g p 8 _ HR0.out (by omega) (by omega)).mono ?_; rintro r w1 ⟨z1, rfl, hh1, hrd1, hb1⟩
  have Y1 : Hid (Chg (g) (g + 1) v1 w1) := Lib.hid (Chg.of_grown hb1 (fun b hb => by injection hb with hb; omega))
  have s1 : v1.heap.size ≤ w1.heap.size := Y1.out.size
  have Ew1 : Hid (Chg g (g + 1) w w1) := Lib.hid (Ev1.out.step Y1.out (by omega))
  clear hb1
  replace KX := Lib.hid (KX.out.chg Y1.out (by omega))
  replace KR := Lib.hid (KR.out.chg Y1.out (by omega))
  replace KO := Lib.hid (KO.out.chg Y1.out (by omega))
  clear HR0
  have HRD1 := Lib.hid hrd1; clear hrd1
  have HH1 := Lib.hid hh1; clear hh1
  obtain ⟨qX0, qX1, qX2, qX3, qX4, qX5, qX6, qX7, qX8⟩ := KX.out.c9
  have jX := KX.out.lt
  obtain ⟨qR0, qR1, qR2, qR3, qR4, qR5, qR6, qR7, qR8⟩ := KR.out.c9
  have jR := KR.out.lt
  obtain ⟨qO0, qO1, qO2, qO3, qO4, qO5, qO6, qO7, qO8⟩ := KO.out.c9
  have jO := KO.out.lt
  obtain ⟨gx, hgx⟩ : ∃ gx : Nat, gx = w.heap.size := ⟨_, rfl⟩
  have hz01 := HH1.out.1
  have hz02 := HH1.out.2.1 (by omega)
  have FM : Hid (∀ v, Chg g (g + 1) w1 v → FrM v lo m a) := Lib.hid (fun v hv => (HX.out.chg Ew1.out (by omega)).chg hv (by omega))
  have hw1 : w.heap.size + 3 ≤ w1.heap.size := by have := KO.out.lt; omega
  rw [← hgx] at KX KR KO hw1 qX0 qX1 qX2 qX3 qX4 qX5 qX6 qX7 qX8 jX qR0 qR1 qR2 qR3 qR4 qR5 qR6 qR7 qR8 jR qO0 qO1 qO2 qO3 qO4 qO5 qO6 qO7 qO8 jO HINB HINF HINL HINO ⊢
  have FL : Hid (∀ v, Chg g (g + 1) w1 v → Blk v (gx + 1 + 1) 34 [.slice a.b m.table.buckets.length a.bc, .slice a.f m.table.frames.length a.fc, .slice a.l m.cache.lines.length a.lc, .int .i64 m.cache.hand, .int .i64 m.tags.count, .int .i64 m.tags.next, .int .i64 m.tags.round, .slice a.o m.tags.owns.length a.oc, .int .i64 m.space] ∧ Blk v (gx + 1) 34 [.slice none 0 0, .slice none 0 0, .slice none 0 0, .int .i64 0, .int .i64 0, .int .i64 0, .int .i64 0, .slice none 0 0, .int .i64 0] ∧ Blk v gx 34 [.slice a.b m.table.buckets.length a.bc, .slice a.f m.table.frames.length a.fc, .slice a.l m.cache.lines.length a.lc, .int .i64 m.cache.hand, .int .i64 m.tags.count, .int .i64 m.tags.next, .int .i64 m.tags.round, .slice a.o m.tags.owns.length a.oc, .int .i64 m.space]) := Lib.hid (fun v hv => ⟨KO.out.chg hv (by omega), KR.out.chg hv (by omega), KX.out.chg hv (by omega)⟩)
  have FK : Hid (∀ w', Chg g (g + 1) w1 w' → (w'.cell? ⟨gx, 0, none⟩ = some (.slice a.b m.table.buckets.length a.bc) ∧ w'.cell? ⟨gx, 1, none⟩ = some (.slice a.f m.table.frames.length a.fc) ∧ w'.cell? ⟨gx, 2, none⟩ = some (.slice a.l m.cache.lines.length a.lc) ∧ w'.cell? ⟨gx, 3, none⟩ = some (.int .i64 m.cache.hand) ∧ w'.cell? ⟨gx, 4, none⟩ = some (.int .i64 m.tags.count) ∧ w'.cell? ⟨gx, 5, none⟩ = some (.int .i64 m.tags.next) ∧ w'.cell? ⟨gx, 6, none⟩ = some (.int .i64 m.tags.round) ∧ w'.cell? ⟨gx, 7, none⟩ = some (.slice a.o m.tags.owns.length a.oc) ∧ w'.cell? ⟨gx, 8, none⟩ = some (.int .i64 m.space))) := Lib.hid (fun v hv => (KX.out.chg hv (by omega)).c9)
  have HGR : Hid (∀ b, some g = some b → g ≤ b ∧ b < g + 1) := Lib.hid (fun b hb => by injection hb with hb; omega)
  have hggx : g < gx := by omega
  have hlog : lo ≤ gx := by omega
  have hgx0 : w.heap.size ≤ gx := by omega
  have hneX : gx ≠ gx + 1 + 1 := by omega
  clear HH1 qX0 qX1 qX2 qX3 qX4 qX5 qX6 qX7 qX8 jX qR0 qR1 qR2 qR3 qR4 qR5 qR6 qR7 qR8 jR qO0 qO1 qO2 qO3 qO4 qO5 qO6 qO7 qO8 jO KX KR KO hgx X1 Y1 t1 s1 lX lR lO
  by_cases hz : z1 = 0
  · subst hz
    have CN2 : Hid (∀ (b : Nat) (v : World), Rdr v g (p + 1) → Rd v (some ⟨b, 0, none⟩) ([0, 1, 2, 3] : List Int) → b ≠ g → Calls Tryd.prog 38 #[.pointer (some ⟨g, 0, none⟩), .slice (some ⟨b, 0, none⟩) 4 4] v (Chosen g (p + 1) [0, 1, 2, 3] v)) := Lib.hid (fun b v h1 h2 h3 => num_c g (p + 1) b 0 4 [0, 1, 2, 3] v h1 h2 (by simp) (by simp) (by omega) h3)
    have HLA : Hid (∀ v : World, Rd (v.alloc (.cells #[.int .i64 0, .int .i64 1, .int .i64 2, .int .i64 3] 3)) (some ⟨v.heap.size, 0, none⟩) ([0, 1, 2, 3] : List Int)) := Lib.hid (fun v => Rd.lits v _ _)
    have HLD : Hid (∀ v : World, Rd ((v.alloc (.cells #[.int .i64 0, .int .i64 1, .int .i64 2, .int .i64 3] 3)).drew) (some ⟨v.heap.size, 0, none⟩) ([0, 1, 2, 3] : List Int)) := Lib.hid (fun v => Rd.lits_drew v _ _)
    go_wp2_with fail
    go_region_held3 (fun w' => (w'.cell? ⟨gx, 0, none⟩ = some (.slice a.b m.table.buckets.length a.bc) ∧ w'.cell? ⟨gx, 1, none⟩ = some (.slice a.f m.table.frames.length a.fc) ∧ w'.cell? ⟨gx, 2, none⟩ = some (.slice a.l m.cache.lines.length a.lc) ∧ w'.cell? ⟨gx, 3, none⟩ = some (.int .i64 m.cache.hand) ∧ w'.cell? ⟨gx, 4, none⟩ = some (.int .i64 m.tags.count) ∧ w'.cell? ⟨gx, 5, none⟩ = some (.int .i64 m.tags.next) ∧ w'.cell? ⟨gx, 6, none⟩ = some (.int .i64 m.tags.round) ∧ w'.cell? ⟨gx, 7, none⟩ = some (.slice a.o m.tags.owns.length a.oc) ∧ w'.cell? ⟨gx, 8, none⟩ = some (.int .i64 m.space))) (first | (refine FK.out _ ?_; with_reducible (first | exact Chg.refl _ _ _ | exact (Chg.refl _ _ _).drew | exact ((Chg.refl _ _ _).alloc _).drew | exact hC2 | exact hC2.alloc _ | exact lC3 | exact lC3.alloc _)) | with_reducible exact (Blk.far (Blk.far (Blk.far (Blk.far (Blk.far (Blk.far (Blk.far (Blk.far (Blk.far hX hneX _) hneX _) hneX _) hneX _) hneX _) hneX _) hneX _) hneX _) hneX _).c9 | go_keep) (first
      | (go_at_call 38; (with_reducible refine (CN2.out _ _ ?_ ?_ ?_).mono ?_); (repeat' (first | with_reducible exact HRD1.out | with_reducible refine Rdr.alloc ?_ _ | with_reducible refine Rdr.drew ?_)); (first | (exact Rd.lits _ _ _) | (exact Rd.lits_drew _ _ _)); (omega); rintro r w2 ⟨v2, rfl, hv2, hr2, hg2⟩; have hC2 : Chg g (g + 1) w1 w2 := Chg.trans (by repeat' (first | with_reducible exact Chg.refl _ _ _ | with_reducible exact hC2 | with_reducible refine Chg.alloc ?_ _ | with_reducible refine Chg.drew ?_)) (Chg.of_grown hg2 HGR.out); have hz2 := hC2.size)
      | (go_at_call 57; (with_reducible refine (CEN.out v2 _ ?_).mono ?_); (refine (FM.out _ ?_).has; repeat' (first | with_reducible exact Chg.refl _ _ _ | with_reducible exact hC2 | with_reducible refine Chg.alloc ?_ _ | with_reducible refine Chg.drew ?_)); rintro r w3 ⟨n, an, ok, rfl, hok, hfn, hb3⟩; have lC3 : Chg g (g + 1) w1 w3 := Chg.trans (by repeat' (first | with_reducible exact Chg.refl _ _ _ | with_reducible exact hC2 | with_reducible refine Chg.alloc ?_ _ | with_reducible refine Chg.drew ?_)) ((Chg.of_ex hb3).mono' _ _); obtain ⟨hO, hR, hX⟩ := FL.out _ lC3; obtain ⟨o0, o1, o2, o3, o4, o5, o6, o7, o8⟩ := hO.c9; have oz := hO.frozen; have ol := hO.lt; obtain ⟨x0, x1, x2, x3, x4, x5, x6, x7, x8⟩ := hX.c9; have xl := hX.lt))
    all_goals (rename_i hHeld; clear hHeld)
    all_goals
      have HC := Lib.hid lC3
      have HFN := Lib.hid hfn
      have HOKN := Lib.hid hok
      have HRE := Lib.hid (hr2.ex hb3)
      have EW : Hid (Chg g (g + 1) w w3) := Lib.hid (Ew1.out.trans lC3)
      have HZ : Hid (w1.heap.size ≤ w3.heap.size ∧ w1.heap.size ≤ w2.heap.size) := Lib.hid ⟨lC3.size, hz2⟩
      obtain ⟨r0, r1, r2, r3, r4, r5, r6, r7, r8⟩ := hR.c9
      have rz := hR.frozen
      have rl := hR.lt
      have hFN : ∀ {E : World}, w2.heap.size ≤ E.heap.size → FrM w3 E.heap.size n an → FrM w3 w1.heap.size n an := fun h1 h2 => FrM.mono h2 (Nat.le_trans hz2 h1)
      replace HFN := Lib.hid (hFN (by first | exact Nat.le_refl _ | simp) HFN.out)
      have HNB := Lib.hid HFN.out.b.row
      have HNF := Lib.hid HFN.out.f.row
      have HNL := Lib.hid HFN.out.l.row
      have HNO := Lib.hid HFN.out.o.row
      have HMK := Lib.hid (FM.out _ lC3)
      clear lC3 hfn hok hR hO hX hb3 hFN
      cases ok
      · go_wp2
        exact bodyPost_ret (v := .agg #[.slice a.b m.table.buckets.length a.bc, .slice a.f m.table.frames.length a.fc, .slice a.l m.cache.lines.length a.lc, .int .i64 m.cache.hand, .int .i64 m.tags.count, .int .i64 m.tags.next, .int .i64 m.tags.round, .slice a.o m.tags.owns.length a.oc, .int .i64 m.space]) (by simp [results, Tryd.results22, go_sem, *]) rfl
          ⟨m, a, p + 2, rfl, HMO.out, ⟨Fr.mono (B := lo) (by repeat' (first | with_reducible exact HMK.out.b | with_reducible refine Fr.alloc ?_ _ | with_reducible refine Fr.put ?_ (fun b hb => by have := HINB.out b hb; omega) _)) (Nat.le_refl _), Fr.mono (B := lo) (by repeat' (first | with_reducible exact HMK.out.f | with_reducible refine Fr.alloc ?_ _ | with_reducible refine Fr.put ?_ (fun b hb => by have := HINF.out b hb; omega) _)) (Nat.le_refl _), Fr.mono (B := lo) (by repeat' (first | with_reducible exact HMK.out.l | with_reducible refine Fr.alloc ?_ _ | with_reducible refine Fr.put ?_ (fun b hb => by have := HINL.out b hb; omega) _)) (Nat.le_refl _), Fr.mono (B := lo) (by repeat' (first | with_reducible exact HMK.out.o | with_reducible refine Fr.alloc ?_ _ | with_reducible refine Fr.put ?_ (fun b hb => by have := HINO.out b hb; omega) _)) (Nat.le_refl _)⟩, Rdr.chg (lo := gx + 1) (hi := gx + 1 + 1 + 1) HRE.out (by repeat' (first | with_reducible exact Chg.refl _ _ w3 | with_reducible refine Chg.alloc ?_ _ | with_reducible refine Chg.drew ?_ | with_reducible refine Chg.set ?_ (by omega) _)) (by omega), by omega, Chg.grown (by repeat' (first | with_reducible exact EW.out | with_reducible refine Chg.alloc ?_ _ | with_reducible refine Chg.drew ?_ | with_reducible refine Chg.set ?_ (by omega) _))⟩
      · go_wp2
        exact bodyPost_ret (v := .agg #[.slice an.b n.table.buckets.length an.bc, .slice an.f n.table.frames.length an.fc, .slice an.l n.cache.lines.length an.lc, .int .i64 n.cache.hand, .int .i64 n.tags.count, .int .i64 n.tags.next, .int .i64 n.tags.round, .slice an.o n.tags.owns.length an.oc, .int .i64 n.space]) (by simp [results, Tryd.results22, go_sem, *]) rfl
          ⟨n, an, p + 2, rfl, HOKN.out (by simp), ⟨Fr.mono (B := w1.heap.size) (by repeat' (first | with_reducible exact HFN.out.b | with_reducible refine Fr.alloc ?_ _ | with_reducible refine Fr.put ?_ (fun b hb => by have := HNB.out b hb; omega) _)) (by omega), Fr.mono (B := w1.heap.size) (by repeat' (first | with_reducible exact HFN.out.f | with_reducible refine Fr.alloc ?_ _ | with_reducible refine Fr.put ?_ (fun b hb => by have := HNF.out b hb; omega) _)) (by omega), Fr.mono (B := w1.heap.size) (by repeat' (first | with_reducible exact HFN.out.l | with_reducible refine Fr.alloc ?_ _ | with_reducible refine Fr.put ?_ (fun b hb => by have := HNL.out b hb; omega) _)) (by omega), Fr.mono (B := w1.heap.size) (by repeat' (first | with_reducible exact HFN.out.o | with_reducible refine Fr.alloc ?_ _ | with_reducible refine Fr.put ?_ (fun b hb => by have := HNO.out b hb; omega) _)) (by omega)⟩, Rdr.chg (lo := gx + 1) (hi := gx + 1 + 1 + 1) HRE.out (by repeat' (first | with_reducible exact Chg.refl _ _ w3 | with_reducible refine Chg.alloc ?_ _ | with_reducible refine Chg.drew ?_ | with_reducible refine Chg.set ?_ (by omega) _)) (by omega), by omega, Chg.grown (by repeat' (first | with_reducible exact EW.out | with_reducible refine Chg.alloc ?_ _ | with_reducible refine Chg.drew ?_ | with_reducible refine Chg.set ?_ (by omega) _))⟩
  have b0 : (z1 == 0) = false := by simp [hz]
  clear hz
  by_cases hz : z1 = 1 ∨ z1 = 2 ∨ z1 = 3
  · rcases hz with rfl | rfl | rfl
    all_goals
      have CP2 : Hid (∀ v, Rdr v g (p + 1) → Calls Tryd.prog 21 #[.pointer (some ⟨g, 0, none⟩), .int .i64 3] v (Picked g (p + 1) 3 v)) := Lib.hid (fun v h => pick_c g (p + 1) 3 v h (by omega) (by omega))
      have CP3 : Hid (∀ v, Rdr v g (p + 1 + 1) → Calls Tryd.prog 60 #[.pointer (some ⟨g, 0, none⟩)] v (SomePage g (p + 1 + 1) v)) := Lib.hid (fun v h => l6Page_c g (p + 1 + 1) v h (by omega))
      have CP5 : Hid (∀ v, Rdr v g (p + 1 + 1 + 1) → Calls Tryd.prog 21 #[.pointer (some ⟨g, 0, none⟩), .int .i64 (m.table.frames.length : Int)] v (Picked g (p + 1 + 1 + 1) (m.table.frames.length : Int) v)) := Lib.hid (fun v h => pick_c g (p + 1 + 1 + 1) (m.table.frames.length : Int) v h (by omega) (by omega))
      have CN6 : Hid (∀ (b : Nat) (v : World), Rdr v g (p + 1 + 1 + 1 + 1) → Rd v (some ⟨b, 0, none⟩) ([3, 1, 7] : List Int) → b ≠ g → Calls Tryd.prog 38 #[.pointer (some ⟨g, 0, none⟩), .slice (some ⟨b, 0, none⟩) 3 3] v (Chosen g (p + 1 + 1 + 1 + 1) [3, 1, 7] v)) := Lib.hid (fun b v h1 h2 h3 => num_c g (p + 1 + 1 + 1 + 1) b 0 3 [3, 1, 7] v h1 h2 (by simp) (by simp) (by omega) h3)
      have HLA : Hid (∀ v : World, Rd (v.alloc (.cells #[.int .i64 3, .int .i64 1, .int .i64 7] 3)) (some ⟨v.heap.size, 0, none⟩) ([3, 1, 7] : List Int)) := Lib.hid (fun v => Rd.lits v _ _)
      have HLD : Hid (∀ v : World, Rd ((v.alloc (.cells #[.int .i64 3, .int .i64 1, .int .i64 7] 3)).drew) (some ⟨v.heap.size, 0, none⟩) ([3, 1, 7] : List Int)) := Lib.hid (fun v => Rd.lits_drew v _ _)
      go_wp2_with fail
      go_region_held3 (fun w' => (w'.cell? ⟨gx, 0, none⟩ = some (.slice a.b m.table.buckets.length a.bc) ∧ w'.cell? ⟨gx, 1, none⟩ = some (.slice a.f m.table.frames.length a.fc) ∧ w'.cell? ⟨gx, 2, none⟩ = some (.slice a.l m.cache.lines.length a.lc) ∧ w'.cell? ⟨gx, 3, none⟩ = some (.int .i64 m.cache.hand) ∧ w'.cell? ⟨gx, 4, none⟩ = some (.int .i64 m.tags.count) ∧ w'.cell? ⟨gx, 5, none⟩ = some (.int .i64 m.tags.next) ∧ w'.cell? ⟨gx, 6, none⟩ = some (.int .i64 m.tags.round) ∧ w'.cell? ⟨gx, 7, none⟩ = some (.slice a.o m.tags.owns.length a.oc) ∧ w'.cell? ⟨gx, 8, none⟩ = some (.int .i64 m.space))) (first | (refine FK.out _ ?_; with_reducible (first | exact Chg.refl _ _ _ | exact (Chg.refl _ _ _).drew | exact ((Chg.refl _ _ _).alloc _).drew | exact hC2 | exact hC2.alloc _ | exact hC3 | exact hC3.alloc _ | exact hC4 | exact hC4.alloc _ | exact hC5 | exact hC5.alloc _ | exact hC6 | exact hC6.alloc _ | exact lC7 | exact lC7.alloc _)) | with_reducible exact (Blk.far (Blk.far (Blk.far (Blk.far (Blk.far (Blk.far (Blk.far (Blk.far (Blk.far hX hneX _) hneX _) hneX _) hneX _) hneX _) hneX _) hneX _) hneX _) hneX _).c9 | go_keep) (first
        | (go_at_call 21; (with_reducible refine (CP2.out _ ?_).mono ?_); (repeat' (first | with_reducible exact HRD1.out | with_reducible refine Rdr.alloc ?_ _ | with_reducible refine Rdr.drew ?_)); rintro r w2 ⟨v2, rfl, hv2, hr2, hg2⟩; have hC2 : Chg g (g + 1) w1 w2 := Chg.trans (by repeat' (first | with_reducible exact Chg.refl _ _ _ | with_reducible exact hC5 | with_reducible refine Chg.alloc ?_ _ | with_reducible refine Chg.drew ?_)) (Chg.of_grown hg2 HGR.out); have hz2 := hC2.size; (first | (with_reducible (have hL := Rd.past hL hg2 (by omega))) | (with_reducible (have hL := Rd.past (HLA.out _) hg2 (by omega))) | (with_reducible (have hL := Rd.past (HLD.out _) hg2 (by omega))) | skip))
        | (go_at_call 60; (with_reducible refine (CP3.out _ ?_).mono ?_); (repeat' (first | with_reducible exact hr2 | with_reducible refine Rdr.alloc ?_ _ | with_reducible refine Rdr.drew ?_)); rintro r w3 ⟨v3, rfl, hv3, hr3, hg3⟩; have hC3 : Chg g (g + 1) w1 w3 := Chg.trans (by repeat' (first | with_reducible exact Chg.refl _ _ _ | with_reducible exact hC2 | with_reducible refine Chg.alloc ?_ _ | with_reducible refine Chg.drew ?_)) (Chg.of_grown hg3 HGR.out); have hz3 := hC3.size; (first | (with_reducible (have hL := Rd.past hL hg3 (by omega))) | (with_reducible (have hL := Rd.past (HLA.out _) hg3 (by omega))) | (with_reducible (have hL := Rd.past (HLD.out _) hg3 (by omega))) | skip))
        | (go_at_call 59; (with_reducible refine (keyForS_c v2 v3 _).mono ?_); rintro r w4 ⟨rfl, hb4⟩; have hC4 : Chg g (g + 1) w1 w4 := Chg.trans (by repeat' (first | with_reducible exact Chg.refl _ _ _ | with_reducible exact hC3 | with_reducible refine Chg.alloc ?_ _ | with_reducible refine Chg.drew ?_)) ((Chg.of_ex hb4).mono' _ _); have hr4 : Rdr w4 g (p + 1 + 1 + 1) := Rdr.ex (by repeat' (first | with_reducible exact hr3 | with_reducible refine Rdr.alloc ?_ _ | with_reducible refine Rdr.drew ?_)) hb4; have hz4 := hC4.size; (first | (with_reducible (have hL := Rd.ex hL hb4)) | (with_reducible (have hL := Rd.ex (HLA.out _) hb4)) | skip))
        | (go_at_call 21; (with_reducible refine (CP5.out _ ?_).mono ?_); (repeat' (first | with_reducible exact hr4 | with_reducible refine Rdr.alloc ?_ _ | with_reducible refine Rdr.drew ?_)); rintro r w5 ⟨v5, rfl, hv5, hr5, hg5⟩; obtain ⟨i5, rfl⟩ := Int.eq_ofNat_of_zero_le hv5.1; have hi5 := hv5.2.1 (by omega); have hC5 : Chg g (g + 1) w1 w5 := Chg.trans (by repeat' (first | with_reducible exact Chg.refl _ _ _ | with_reducible exact hC4 | with_reducible refine Chg.alloc ?_ _ | with_reducible refine Chg.drew ?_)) (Chg.of_grown hg5 HGR.out); have hz5 := hC5.size; (first | (with_reducible (have hL := Rd.past hL hg5 (by omega))) | (with_reducible (have hL := Rd.past (HLA.out _) hg5 (by omega))) | (with_reducible (have hL := Rd.past (HLD.out _) hg5 (by omega))) | skip))
        | (go_at_call 38; (with_reducible refine (CN6.out _ _ ?_ ?_ ?_).mono ?_); (repeat' (first | with_reducible exact hr5 | with_reducible refine Rdr.alloc ?_ _ | with_reducible refine Rdr.drew ?_)); (first | (with_reducible exact hL) | (with_reducible exact HLA.out _) | (with_reducible exact HLD.out _)); (omega); rintro r w6 ⟨v6, rfl, hv6, hr6, hg6⟩; have hC6 : Chg g (g + 1) w1 w6 := Chg.trans (by repeat' (first | with_reducible exact Chg.refl _ _ _ | with_reducible exact hC5 | with_reducible refine Chg.alloc ?_ _ | with_reducible refine Chg.drew ?_)) (Chg.of_grown hg6 HGR.out); have hz6 := hC6.size)
        | (go_at_call 58; (with_reducible refine (CPU.out v2 v3 i5 v6 _ ?_ ?_ ?_ ?_ ?_).mono ?_); (exact ⟨hv2.1, hv2.2.1 (by omega)⟩); (exact hv3); (omega); (simp at hv6; omega); (refine (FM.out _ ?_).has; repeat' (first | with_reducible exact Chg.refl _ _ _ | with_reducible exact hC6 | with_reducible refine Chg.alloc ?_ _ | with_reducible refine Chg.drew ?_)); rintro r w7 ⟨n, an, ok, rfl, hok, hfn, hb7⟩; have lC7 : Chg g (g + 1) w1 w7 := Chg.trans (by repeat' (first | with_reducible exact Chg.refl _ _ _ | with_reducible exact hC6 | with_reducible refine Chg.alloc ?_ _ | with_reducible refine Chg.drew ?_)) ((Chg.of_ex hb7).mono' _ _); obtain ⟨hO, hR, hX⟩ := FL.out _ lC7; obtain ⟨o0, o1, o2, o3, o4, o5, o6, o7, o8⟩ := hO.c9; have oz := hO.frozen; have ol := hO.lt; obtain ⟨x0, x1, x2, x3, x4, x5, x6, x7, x8⟩ := hX.c9; have xl := hX.lt))
      all_goals (rename_i hHeld; clear hHeld)
      all_goals
        have HC := Lib.hid lC7
        have HFN := Lib.hid hfn
        have HOKN := Lib.hid hok
        have HRE := Lib.hid (hr6.ex hb7)
        have EW : Hid (Chg g (g + 1) w w7) := Lib.hid (Ew1.out.trans lC7)
        have HZ : Hid (w1.heap.size ≤ w7.heap.size ∧ w1.heap.size ≤ w6.heap.size) := Lib.hid ⟨lC7.size, hz6⟩
        obtain ⟨r0, r1, r2, r3, r4, r5, r6, r7, r8⟩ := hR.c9
        have rz := hR.frozen
        have rl := hR.lt
        have hFN : ∀ {E : World}, w6.heap.size ≤ E.heap.size → FrM w7 E.heap.size n an → FrM w7 w1.heap.size n an := fun h1 h2 => FrM.mono h2 (Nat.le_trans hz6 h1)
        replace HFN := Lib.hid (hFN (by first | exact Nat.le_refl _ | simp) HFN.out)
        have HNB := Lib.hid HFN.out.b.row
        have HNF := Lib.hid HFN.out.f.row
        have HNL := Lib.hid HFN.out.l.row
        have HNO := Lib.hid HFN.out.o.row
        have HMK := Lib.hid (FM.out _ lC7)
        clear lC7 hfn hok hR hO hX hb7 hFN
        cases ok
        · go_wp2
          exact bodyPost_ret (v := .agg #[.slice a.b m.table.buckets.length a.bc, .slice a.f m.table.frames.length a.fc, .slice a.l m.cache.lines.length a.lc, .int .i64 m.cache.hand, .int .i64 m.tags.count, .int .i64 m.tags.next, .int .i64 m.tags.round, .slice a.o m.tags.owns.length a.oc, .int .i64 m.space]) (by simp [results, Tryd.results22, go_sem, *]) rfl
            ⟨m, a, p + 1 + 1 + 1 + 1 + 1, rfl, HMO.out, ⟨Fr.mono (B := lo) (by repeat' (first | with_reducible exact HMK.out.b | with_reducible refine Fr.alloc ?_ _ | with_reducible refine Fr.put ?_ (fun b hb => by have := HINB.out b hb; omega) _)) (Nat.le_refl _), Fr.mono (B := lo) (by repeat' (first | with_reducible exact HMK.out.f | with_reducible refine Fr.alloc ?_ _ | with_reducible refine Fr.put ?_ (fun b hb => by have := HINF.out b hb; omega) _)) (Nat.le_refl _), Fr.mono (B := lo) (by repeat' (first | with_reducible exact HMK.out.l | with_reducible refine Fr.alloc ?_ _ | with_reducible refine Fr.put ?_ (fun b hb => by have := HINL.out b hb; omega) _)) (Nat.le_refl _), Fr.mono (B := lo) (by repeat' (first | with_reducible exact HMK.out.o | with_reducible refine Fr.alloc ?_ _ | with_reducible refine Fr.put ?_ (fun b hb => by have := HINO.out b hb; omega) _)) (Nat.le_refl _)⟩, Rdr.chg (lo := gx + 1) (hi := gx + 1 + 1 + 1) HRE.out (by repeat' (first | with_reducible exact Chg.refl _ _ w7 | with_reducible refine Chg.alloc ?_ _ | with_reducible refine Chg.drew ?_ | with_reducible refine Chg.set ?_ (by omega) _)) (by omega), by omega, Chg.grown (by repeat' (first | with_reducible exact EW.out | with_reducible refine Chg.alloc ?_ _ | with_reducible refine Chg.drew ?_ | with_reducible refine Chg.set ?_ (by omega) _))⟩
        · go_wp2
          exact bodyPost_ret (v := .agg #[.slice an.b n.table.buckets.length an.bc, .slice an.f n.table.frames.length an.fc, .slice an.l n.cache.lines.length an.lc, .int .i64 n.cache.hand, .int .i64 n.tags.count, .int .i64 n.tags.next, .int .i64 n.tags.round, .slice an.o n.tags.owns.length an.oc, .int .i64 n.space]) (by simp [results, Tryd.results22, go_sem, *]) rfl
            ⟨n, an, p + 1 + 1 + 1 + 1 + 1, rfl, HOKN.out (by simp), ⟨Fr.mono (B := w1.heap.size) (by repeat' (first | with_reducible exact HFN.out.b | with_reducible refine Fr.alloc ?_ _ | with_reducible refine Fr.put ?_ (fun b hb => by have := HNB.out b hb; omega) _)) (by omega), Fr.mono (B := w1.heap.size) (by repeat' (first | with_reducible exact HFN.out.f | with_reducible refine Fr.alloc ?_ _ | with_reducible refine Fr.put ?_ (fun b hb => by have := HNF.out b hb; omega) _)) (by omega), Fr.mono (B := w1.heap.size) (by repeat' (first | with_reducible exact HFN.out.l | with_reducible refine Fr.alloc ?_ _ | with_reducible refine Fr.put ?_ (fun b hb => by have := HNL.out b hb; omega) _)) (by omega), Fr.mono (B := w1.heap.size) (by repeat' (first | with_reducible exact HFN.out.o | with_reducible refine Fr.alloc ?_ _ | with_reducible refine Fr.put ?_ (fun b hb => by have := HNO.out b hb; omega) _)) (by omega)⟩, Rdr.chg (lo := gx + 1) (hi := gx + 1 + 1 + 1) HRE.out (by repeat' (first | with_reducible exact Chg.refl _ _ w7 | with_reducible refine Chg.alloc ?_ _ | with_reducible refine Chg.drew ?_ | with_reducible refine Chg.set ?_ (by omega) _)) (by omega), by omega, Chg.grown (by repeat' (first | with_reducible exact EW.out | with_reducible refine Chg.alloc ?_ _ | with_reducible refine Chg.drew ?_ | with_reducible refine Chg.set ?_ (by omega) _))⟩
  have b1 : (z1 == 1) = false := by simp; omega
  have b2 : (z1 == 2) = false := by simp; omega
  have b3 : (z1 == 3) = false := by simp; omega
  clear hz
  by_cases hz : z1 = 4 ∨ z1 = 5
  · rcases hz with rfl | rfl
    all_goals
      have CP2 : Hid (∀ v, Rdr v g (p + 1) → Calls Tryd.prog 60 #[.pointer (some ⟨g, 0, none⟩)] v (SomePage g (p + 1) v)) := Lib.hid (fun v h => l6Page_c g (p + 1) v h (by omega))
      have CN3 : Hid (∀ (b : Nat) (v : World), Rdr v g (p + 1 + 1) → Rd v (some ⟨b, 0, none⟩) ([1, 0, 2] : List Int) → b ≠ g → Calls Tryd.prog 38 #[.pointer (some ⟨g, 0, none⟩), .slice (some ⟨b, 0, none⟩) 3 3] v (Chosen g (p + 1 + 1) [1, 0, 2] v)) := Lib.hid (fun b v h1 h2 h3 => num_c g (p + 1 + 1) b 0 3 [1, 0, 2] v h1 h2 (by simp) (by simp) (by omega) h3)
      have HLA : Hid (∀ v : World, Rd (v.alloc (.cells #[.int .i64 1, .int .i64 0, .int .i64 2] 3)) (some ⟨v.heap.size, 0, none⟩) ([1, 0, 2] : List Int)) := Lib.hid (fun v => Rd.lits v _ _)
      have HLD : Hid (∀ v : World, Rd ((v.alloc (.cells #[.int .i64 1, .int .i64 0, .int .i64 2] 3)).drew) (some ⟨v.heap.size, 0, none⟩) ([1, 0, 2] : List Int)) := Lib.hid (fun v => Rd.lits_drew v _ _)
      go_wp2_with fail
      go_region_held3 (fun w' => (w'.cell? ⟨gx, 0, none⟩ = some (.slice a.b m.table.buckets.length a.bc) ∧ w'.cell? ⟨gx, 1, none⟩ = some (.slice a.f m.table.frames.length a.fc) ∧ w'.cell? ⟨gx, 2, none⟩ = some (.slice a.l m.cache.lines.length a.lc) ∧ w'.cell? ⟨gx, 3, none⟩ = some (.int .i64 m.cache.hand) ∧ w'.cell? ⟨gx, 4, none⟩ = some (.int .i64 m.tags.count) ∧ w'.cell? ⟨gx, 5, none⟩ = some (.int .i64 m.tags.next) ∧ w'.cell? ⟨gx, 6, none⟩ = some (.int .i64 m.tags.round) ∧ w'.cell? ⟨gx, 7, none⟩ = some (.slice a.o m.tags.owns.length a.oc) ∧ w'.cell? ⟨gx, 8, none⟩ = some (.int .i64 m.space))) (first | (refine FK.out _ ?_; with_reducible (first | exact Chg.refl _ _ _ | exact (Chg.refl _ _ _).drew | exact ((Chg.refl _ _ _).alloc _).drew | exact hC2 | exact hC2.alloc _ | exact hC3 | exact hC3.alloc _ | exact lC4 | exact lC4.alloc _)) | with_reducible exact (Blk.far (Blk.far (Blk.far (Blk.far (Blk.far (Blk.far (Blk.far (Blk.far (Blk.far hX hneX _) hneX _) hneX _) hneX _) hneX _) hneX _) hneX _) hneX _) hneX _).c9 | go_keep) (first
        | (go_at_call 60; (with_reducible refine (CP2.out _ ?_).mono ?_); (repeat' (first | with_reducible exact HRD1.out | with_reducible refine Rdr.alloc ?_ _ | with_reducible refine Rdr.drew ?_)); rintro r w2 ⟨v2, rfl, hv2, hr2, hg2⟩; have hC2 : Chg g (g + 1) w1 w2 := Chg.trans (by repeat' (first | with_reducible exact Chg.refl _ _ _ | with_reducible exact hC3 | with_reducible refine Chg.alloc ?_ _ | with_reducible refine Chg.drew ?_)) (Chg.of_grown hg2 HGR.out); have hz2 := hC2.size; (first | (with_reducible (have hL := Rd.past hL hg2 (by omega))) | (with_reducible (have hL := Rd.past (HLA.out _) hg2 (by omega))) | (with_reducible (have hL := Rd.past (HLD.out _) hg2 (by omega))) | skip))
        | (go_at_call 38; (with_reducible refine (CN3.out _ _ ?_ ?_ ?_).mono ?_); (repeat' (first | with_reducible exact hr2 | with_reducible refine Rdr.alloc ?_ _ | with_reducible refine Rdr.drew ?_)); (first | (with_reducible exact hL) | (with_reducible exact HLA.out _) | (with_reducible exact HLD.out _)); (omega); rintro r w3 ⟨v3, rfl, hv3, hr3, hg3⟩; have hC3 : Chg g (g + 1) w1 w3 := Chg.trans (by repeat' (first | with_reducible exact Chg.refl _ _ _ | with_reducible exact hC2 | with_reducible refine Chg.alloc ?_ _ | with_reducible refine Chg.drew ?_)) (Chg.of_grown hg3 HGR.out); have hz3 := hC3.size)
        | (go_at_call 61; (with_reducible refine (CTO.out v2 v3 _ ?_ ?_ ?_).mono ?_); (exact hv2); (simp at hv3; omega); (refine (FM.out _ ?_).has; repeat' (first | with_reducible exact Chg.refl _ _ _ | with_reducible exact hC3 | with_reducible refine Chg.alloc ?_ _ | with_reducible refine Chg.drew ?_)); rintro r w4 ⟨n, an, fr, oc, rfl, hok, hfn, hb4⟩; have lC4 : Chg g (g + 1) w1 w4 := Chg.trans (by repeat' (first | with_reducible exact Chg.refl _ _ _ | with_reducible exact hC3 | with_reducible refine Chg.alloc ?_ _ | with_reducible refine Chg.drew ?_)) ((Chg.of_ex hb4).mono' _ _); obtain ⟨hO, hR, hX⟩ := FL.out _ lC4; obtain ⟨o0, o1, o2, o3, o4, o5, o6, o7, o8⟩ := hO.c9; have oz := hO.frozen; have ol := hO.lt; obtain ⟨x0, x1, x2, x3, x4, x5, x6, x7, x8⟩ := hX.c9; have xl := hX.lt))
      all_goals (rename_i hHeld; clear hHeld)
      all_goals
        have HC := Lib.hid lC4
        have HFN := Lib.hid hfn
        have HOKN := Lib.hid hok
        have HRE := Lib.hid (hr3.ex hb4)
        have EW : Hid (Chg g (g + 1) w w4) := Lib.hid (Ew1.out.trans lC4)
        have HZ : Hid (w1.heap.size ≤ w4.heap.size ∧ w1.heap.size ≤ w3.heap.size) := Lib.hid ⟨lC4.size, hz3⟩
        obtain ⟨r0, r1, r2, r3, r4, r5, r6, r7, r8⟩ := hR.c9
        have rz := hR.frozen
        have rl := hR.lt
        have hFN : ∀ {E : World}, w3.heap.size ≤ E.heap.size → FrM w4 E.heap.size n an → FrM w4 w1.heap.size n an := fun h1 h2 => FrM.mono h2 (Nat.le_trans hz3 h1)
        replace HFN := Lib.hid (hFN (by first | exact Nat.le_refl _ | simp) HFN.out)
        have HNB := Lib.hid HFN.out.b.row
        have HNF := Lib.hid HFN.out.f.row
        have HNL := Lib.hid HFN.out.l.row
        have HNO := Lib.hid HFN.out.o.row
        have HMK := Lib.hid (FM.out _ lC4)
        clear lC4 hfn hok hR hO hX hb4 hFN
        go_wp2
        exact bodyPost_ret (v := .agg #[.slice an.b n.table.buckets.length an.bc, .slice an.f n.table.frames.length an.fc, .slice an.l n.cache.lines.length an.lc, .int .i64 n.cache.hand, .int .i64 n.tags.count, .int .i64 n.tags.next, .int .i64 n.tags.round, .slice an.o n.tags.owns.length an.oc, .int .i64 n.space]) (by simp [results, Tryd.results22, go_sem, *]) rfl
          ⟨n, an, p + 1 + 1 + 1, rfl, HOKN.out (by simp), ⟨Fr.mono (B := w1.heap.size) (by repeat' (first | with_reducible exact HFN.out.b | with_reducible refine Fr.alloc ?_ _ | with_reducible refine Fr.put ?_ (fun b hb => by have := HNB.out b hb; omega) _)) (by omega), Fr.mono (B := w1.heap.size) (by repeat' (first | with_reducible exact HFN.out.f | with_reducible refine Fr.alloc ?_ _ | with_reducible refine Fr.put ?_ (fun b hb => by have := HNF.out b hb; omega) _)) (by omega), Fr.mono (B := w1.heap.size) (by repeat' (first | with_reducible exact HFN.out.l | with_reducible refine Fr.alloc ?_ _ | with_reducible refine Fr.put ?_ (fun b hb => by have := HNL.out b hb; omega) _)) (by omega), Fr.mono (B := w1.heap.size) (by repeat' (first | with_reducible exact HFN.out.o | with_reducible refine Fr.alloc ?_ _ | with_reducible refine Fr.put ?_ (fun b hb => by have := HNO.out b hb; omega) _)) (by omega)⟩, Rdr.chg (lo := gx + 1) (hi := gx + 1 + 1 + 1) HRE.out (by repeat' (first | with_reducible exact Chg.refl _ _ w4 | with_reducible refine Chg.alloc ?_ _ | with_reducible refine Chg.drew ?_ | with_reducible refine Chg.set ?_ (by omega) _)) (by omega), by omega, Chg.grown (by repeat' (first | with_reducible exact EW.out | with_reducible refine Chg.alloc ?_ _ | with_reducible refine Chg.drew ?_ | with_reducible refine Chg.set ?_ (by omega) _))⟩
  have b4 : (z1 == 4) = false := by simp; omega
  have b5 : (z1 == 5) = false := by simp; omega
  clear hz
  by_cases hz : z1 = 6
  · rcases hz with rfl
    all_goals
      have CN2 : Hid (∀ (b : Nat) (v : World), Rdr v g (p + 1) → Rd v (some ⟨b, 0, none⟩) ([200, 201] : List Int) → b ≠ g → Calls Tryd.prog 38 #[.pointer (some ⟨g, 0, none⟩), .slice (some ⟨b, 0, none⟩) 2 2] v (Chosen g (p + 1) [200, 201] v)) := Lib.hid (fun b v h1 h2 h3 => num_c g (p + 1) b 0 2 [200, 201] v h1 h2 (by simp) (by simp) (by omega) h3)
      have HLA : Hid (∀ v : World, Rd (v.alloc (.cells #[.int .i64 200, .int .i64 201] 3)) (some ⟨v.heap.size, 0, none⟩) ([200, 201] : List Int)) := Lib.hid (fun v => Rd.lits v _ _)
      have HLD : Hid (∀ v : World, Rd ((v.alloc (.cells #[.int .i64 200, .int .i64 201] 3)).drew) (some ⟨v.heap.size, 0, none⟩) ([200, 201] : List Int)) := Lib.hid (fun v => Rd.lits_drew v _ _)
      go_wp2_with fail
      go_region_held3 (fun w' => (w'.cell? ⟨gx, 0, none⟩ = some (.slice a.b m.table.buckets.length a.bc) ∧ w'.cell? ⟨gx, 1, none⟩ = some (.slice a.f m.table.frames.length a.fc) ∧ w'.cell? ⟨gx, 2, none⟩ = some (.slice a.l m.cache.lines.length a.lc) ∧ w'.cell? ⟨gx, 3, none⟩ = some (.int .i64 m.cache.hand) ∧ w'.cell? ⟨gx, 4, none⟩ = some (.int .i64 m.tags.count) ∧ w'.cell? ⟨gx, 5, none⟩ = some (.int .i64 m.tags.next) ∧ w'.cell? ⟨gx, 6, none⟩ = some (.int .i64 m.tags.round) ∧ w'.cell? ⟨gx, 7, none⟩ = some (.slice a.o m.tags.owns.length a.oc) ∧ w'.cell? ⟨gx, 8, none⟩ = some (.int .i64 m.space))) (first | (refine FK.out _ ?_; with_reducible (first | exact Chg.refl _ _ _ | exact (Chg.refl _ _ _).drew | exact ((Chg.refl _ _ _).alloc _).drew | exact hC2 | exact hC2.alloc _ | exact lC3 | exact lC3.alloc _)) | with_reducible exact (Blk.far (Blk.far (Blk.far (Blk.far (Blk.far (Blk.far (Blk.far (Blk.far (Blk.far hX hneX _) hneX _) hneX _) hneX _) hneX _) hneX _) hneX _) hneX _) hneX _).c9 | go_keep) (first
        | (go_at_call 38; (with_reducible refine (CN2.out _ _ ?_ ?_ ?_).mono ?_); (repeat' (first | with_reducible exact HRD1.out | with_reducible refine Rdr.alloc ?_ _ | with_reducible refine Rdr.drew ?_)); (first | (exact Rd.lits _ _ _) | (exact Rd.lits_drew _ _ _)); (omega); rintro r w2 ⟨v2, rfl, hv2, hr2, hg2⟩; have hC2 : Chg g (g + 1) w1 w2 := Chg.trans (by repeat' (first | with_reducible exact Chg.refl _ _ _ | with_reducible exact hC2 | with_reducible refine Chg.alloc ?_ _ | with_reducible refine Chg.drew ?_)) (Chg.of_grown hg2 HGR.out); have hz2 := hC2.size)
        | (go_at_call 62; (with_reducible refine (CWI.out v2 _ ?_ ?_).mono ?_); (simp at hv2; omega); (refine (FM.out _ ?_).has; repeat' (first | with_reducible exact Chg.refl _ _ _ | with_reducible exact hC2 | with_reducible refine Chg.alloc ?_ _ | with_reducible refine Chg.drew ?_)); rintro r w3 ⟨n, an, ok, rfl, hok, hfn, hb3⟩; have lC3 : Chg g (g + 1) w1 w3 := Chg.trans (by repeat' (first | with_reducible exact Chg.refl _ _ _ | with_reducible exact hC2 | with_reducible refine Chg.alloc ?_ _ | with_reducible refine Chg.drew ?_)) ((Chg.of_ex hb3).mono' _ _); obtain ⟨hO, hR, hX⟩ := FL.out _ lC3; obtain ⟨o0, o1, o2, o3, o4, o5, o6, o7, o8⟩ := hO.c9; have oz := hO.frozen; have ol := hO.lt; obtain ⟨x0, x1, x2, x3, x4, x5, x6, x7, x8⟩ := hX.c9; have xl := hX.lt))
      all_goals (rename_i hHeld; clear hHeld)
      all_goals
        have HC := Lib.hid lC3
        have HFN := Lib.hid hfn
        have HOKN := Lib.hid hok
        have HRE := Lib.hid (hr2.ex hb3)
        have EW : Hid (Chg g (g + 1) w w3) := Lib.hid (Ew1.out.trans lC3)
        have HZ : Hid (w1.heap.size ≤ w3.heap.size ∧ w1.heap.size ≤ w2.heap.size) := Lib.hid ⟨lC3.size, hz2⟩
        obtain ⟨r0, r1, r2, r3, r4, r5, r6, r7, r8⟩ := hR.c9
        have rz := hR.frozen
        have rl := hR.lt
        have hFN : ∀ {E : World}, w2.heap.size ≤ E.heap.size → FrM w3 E.heap.size n an → FrM w3 w1.heap.size n an := fun h1 h2 => FrM.mono h2 (Nat.le_trans hz2 h1)
        replace HFN := Lib.hid (hFN (by first | exact Nat.le_refl _ | simp) HFN.out)
        have HNB := Lib.hid HFN.out.b.row
        have HNF := Lib.hid HFN.out.f.row
        have HNL := Lib.hid HFN.out.l.row
        have HNO := Lib.hid HFN.out.o.row
        have HMK := Lib.hid (FM.out _ lC3)
        clear lC3 hfn hok hR hO hX hb3 hFN
        cases ok
        · go_wp2
          exact bodyPost_ret (v := .agg #[.slice a.b m.table.buckets.length a.bc, .slice a.f m.table.frames.length a.fc, .slice a.l m.cache.lines.length a.lc, .int .i64 m.cache.hand, .int .i64 m.tags.count, .int .i64 m.tags.next, .int .i64 m.tags.round, .slice a.o m.tags.owns.length a.oc, .int .i64 m.space]) (by simp [results, Tryd.results22, go_sem, *]) rfl
            ⟨m, a, p + 1 + 1, rfl, HMO.out, ⟨Fr.mono (B := lo) (by repeat' (first | with_reducible exact HMK.out.b | with_reducible refine Fr.alloc ?_ _ | with_reducible refine Fr.put ?_ (fun b hb => by have := HINB.out b hb; omega) _)) (Nat.le_refl _), Fr.mono (B := lo) (by repeat' (first | with_reducible exact HMK.out.f | with_reducible refine Fr.alloc ?_ _ | with_reducible refine Fr.put ?_ (fun b hb => by have := HINF.out b hb; omega) _)) (Nat.le_refl _), Fr.mono (B := lo) (by repeat' (first | with_reducible exact HMK.out.l | with_reducible refine Fr.alloc ?_ _ | with_reducible refine Fr.put ?_ (fun b hb => by have := HINL.out b hb; omega) _)) (Nat.le_refl _), Fr.mono (B := lo) (by repeat' (first | with_reducible exact HMK.out.o | with_reducible refine Fr.alloc ?_ _ | with_reducible refine Fr.put ?_ (fun b hb => by have := HINO.out b hb; omega) _)) (Nat.le_refl _)⟩, Rdr.chg (lo := gx + 1) (hi := gx + 1 + 1 + 1) HRE.out (by repeat' (first | with_reducible exact Chg.refl _ _ w3 | with_reducible refine Chg.alloc ?_ _ | with_reducible refine Chg.drew ?_ | with_reducible refine Chg.set ?_ (by omega) _)) (by omega), by omega, Chg.grown (by repeat' (first | with_reducible exact EW.out | with_reducible refine Chg.alloc ?_ _ | with_reducible refine Chg.drew ?_ | with_reducible refine Chg.set ?_ (by omega) _))⟩
        · go_wp2
          exact bodyPost_ret (v := .agg #[.slice an.b n.table.buckets.length an.bc, .slice an.f n.table.frames.length an.fc, .slice an.l n.cache.lines.length an.lc, .int .i64 n.cache.hand, .int .i64 n.tags.count, .int .i64 n.tags.next, .int .i64 n.tags.round, .slice an.o n.tags.owns.length an.oc, .int .i64 n.space]) (by simp [results, Tryd.results22, go_sem, *]) rfl
            ⟨n, an, p + 1 + 1, rfl, HOKN.out (by simp), ⟨Fr.mono (B := w1.heap.size) (by repeat' (first | with_reducible exact HFN.out.b | with_reducible refine Fr.alloc ?_ _ | with_reducible refine Fr.put ?_ (fun b hb => by have := HNB.out b hb; omega) _)) (by omega), Fr.mono (B := w1.heap.size) (by repeat' (first | with_reducible exact HFN.out.f | with_reducible refine Fr.alloc ?_ _ | with_reducible refine Fr.put ?_ (fun b hb => by have := HNF.out b hb; omega) _)) (by omega), Fr.mono (B := w1.heap.size) (by repeat' (first | with_reducible exact HFN.out.l | with_reducible refine Fr.alloc ?_ _ | with_reducible refine Fr.put ?_ (fun b hb => by have := HNL.out b hb; omega) _)) (by omega), Fr.mono (B := w1.heap.size) (by repeat' (first | with_reducible exact HFN.out.o | with_reducible refine Fr.alloc ?_ _ | with_reducible refine Fr.put ?_ (fun b hb => by have := HNO.out b hb; omega) _)) (by omega)⟩, Rdr.chg (lo := gx + 1) (hi := gx + 1 + 1 + 1) HRE.out (by repeat' (first | with_reducible exact Chg.refl _ _ w3 | with_reducible refine Chg.alloc ?_ _ | with_reducible refine Chg.drew ?_ | with_reducible refine Chg.set ?_ (by omega) _)) (by omega), by omega, Chg.grown (by repeat' (first | with_reducible exact EW.out | with_reducible refine Chg.alloc ?_ _ | with_reducible refine Chg.drew ?_ | with_reducible refine Chg.set ?_ (by omega) _))⟩
  have b6 : (z1 == 6) = false := by simp; omega
  clear hz
  obtain rfl : z1 = 7 := by simp at b0 b1 b2 b3 b4 b5 b6; omega
  have CP2 : Hid (∀ v, Rdr v g (p + 1) → Calls Tryd.prog 21 #[.pointer (some ⟨g, 0, none⟩), .int .i64 3] v (Picked g (p + 1) 3 v)) := Lib.hid (fun v h => pick_c g (p + 1) 3 v h (by omega) (by omega))
  have CP3 : Hid (∀ v, Rdr v g (p + 1 + 1) → Calls Tryd.prog 60 #[.pointer (some ⟨g, 0, none⟩)] v (SomePage g (p + 1 + 1) v)) := Lib.hid (fun v h => l6Page_c g (p + 1 + 1) v h (by omega))
  go_wp2_with fail
  go_region_held3 (fun w' => (w'.cell? ⟨gx, 0, none⟩ = some (.slice a.b m.table.buckets.length a.bc) ∧ w'.cell? ⟨gx, 1, none⟩ = some (.slice a.f m.table.frames.length a.fc) ∧ w'.cell? ⟨gx, 2, none⟩ = some (.slice a.l m.cache.lines.length a.lc) ∧ w'.cell? ⟨gx, 3, none⟩ = some (.int .i64 m.cache.hand) ∧ w'.cell? ⟨gx, 4, none⟩ = some (.int .i64 m.tags.count) ∧ w'.cell? ⟨gx, 5, none⟩ = some (.int .i64 m.tags.next) ∧ w'.cell? ⟨gx, 6, none⟩ = some (.int .i64 m.tags.round) ∧ w'.cell? ⟨gx, 7, none⟩ = some (.slice a.o m.tags.owns.length a.oc) ∧ w'.cell? ⟨gx, 8, none⟩ = some (.int .i64 m.space))) (first | (refine FK.out _ ?_; with_reducible (first | exact Chg.refl _ _ _ | exact (Chg.refl _ _ _).drew | exact ((Chg.refl _ _ _).alloc _).drew | exact hC2 | exact hC2.alloc _ | exact hC3 | exact hC3.alloc _ | exact hC4 | exact hC4.alloc _ | exact lC5 | exact lC5.alloc _)) | with_reducible exact (Blk.far (Blk.far (Blk.far (Blk.far (Blk.far (Blk.far (Blk.far (Blk.far (Blk.far hX hneX _) hneX _) hneX _) hneX _) hneX _) hneX _) hneX _) hneX _) hneX _).c9 | go_keep) (first
    | (go_at_call 21; (with_reducible refine (CP2.out _ ?_).mono ?_); (repeat' (first | with_reducible exact HRD1.out | with_reducible refine Rdr.alloc ?_ _ | with_reducible refine Rdr.drew ?_)); rintro r w2 ⟨v2, rfl, hv2, hr2, hg2⟩; have hC2 : Chg g (g + 1) w1 w2 := Chg.trans (by repeat' (first | with_reducible exact Chg.refl _ _ _ | with_reducible exact hC3 | with_reducible refine Chg.alloc ?_ _ | with_reducible refine Chg.drew ?_)) (Chg.of_grown hg2 HGR.out); have hz2 := hC2.size)
    | (go_at_call 60; (with_reducible refine (CP3.out _ ?_).mono ?_); (repeat' (first | with_reducible exact hr2 | with_reducible refine Rdr.alloc ?_ _ | with_reducible refine Rdr.drew ?_)); rintro r w3 ⟨v3, rfl, hv3, hr3, hg3⟩; have hC3 : Chg g (g + 1) w1 w3 := Chg.trans (by repeat' (first | with_reducible exact Chg.refl _ _ _ | with_reducible exact hC2 | with_reducible refine Chg.alloc ?_ _ | with_reducible refine Chg.drew ?_)) (Chg.of_grown hg3 HGR.out); have hz3 := hC3.size)
    | (go_at_call 59; (with_reducible refine (keyForS_c v2 v3 _).mono ?_); rintro r w4 ⟨rfl, hb4⟩; have hC4 : Chg g (g + 1) w1 w4 := Chg.trans (by repeat' (first | with_reducible exact Chg.refl _ _ _ | with_reducible exact hC3 | with_reducible refine Chg.alloc ?_ _ | with_reducible refine Chg.drew ?_)) ((Chg.of_ex hb4).mono' _ _); have hr4 : Rdr w4 g (p + 1 + 1 + 1) := Rdr.ex (by repeat' (first | with_reducible exact hr3 | with_reducible refine Rdr.alloc ?_ _ | with_reducible refine Rdr.drew ?_)) hb4; have hz4 := hC4.size)
    | (go_at_call 63; (with_reducible refine (CTA.out v2 v3 _ ?_ ?_ ?_).mono ?_); (exact ⟨hv2.1, hv2.2.1 (by omega)⟩); (exact hv3); (refine (FM.out _ ?_).has; repeat' (first | with_reducible exact Chg.refl _ _ _ | with_reducible exact hC4 | with_reducible refine Chg.alloc ?_ _ | with_reducible refine Chg.drew ?_)); rintro r w5 ⟨n, an, ok, rfl, hok, hfn, hb5⟩; have lC5 : Chg g (g + 1) w1 w5 := Chg.trans (by repeat' (first | with_reducible exact Chg.refl _ _ _ | with_reducible exact hC4 | with_reducible refine Chg.alloc ?_ _ | with_reducible refine Chg.drew ?_)) ((Chg.of_ex hb5).mono' _ _); obtain ⟨hO, hR, hX⟩ := FL.out _ lC5; obtain ⟨o0, o1, o2, o3, o4, o5, o6, o7, o8⟩ := hO.c9; have oz := hO.frozen; have ol := hO.lt; obtain ⟨x0, x1, x2, x3, x4, x5, x6, x7, x8⟩ := hX.c9; have xl := hX.lt))
  all_goals (rename_i hHeld; clear hHeld)
  all_goals
    have HC := Lib.hid lC5
    have HFN := Lib.hid hfn
    have HOKN := Lib.hid hok
    have HRE := Lib.hid (hr4.ex hb5)
    have EW : Hid (Chg g (g + 1) w w5) := Lib.hid (Ew1.out.trans lC5)
    have HZ : Hid (w1.heap.size ≤ w5.heap.size ∧ w1.heap.size ≤ w4.heap.size) := Lib.hid ⟨lC5.size, hz4⟩
    obtain ⟨r0, r1, r2, r3, r4, r5, r6, r7, r8⟩ := hR.c9
    have rz := hR.frozen
    have rl := hR.lt
    have hFN : ∀ {E : World}, w4.heap.size ≤ E.heap.size → FrM w5 E.heap.size n an → FrM w5 w1.heap.size n an := fun h1 h2 => FrM.mono h2 (Nat.le_trans hz4 h1)
    replace HFN := Lib.hid (hFN (by first | exact Nat.le_refl _ | simp) HFN.out)
    have HNB := Lib.hid HFN.out.b.row
    have HNF := Lib.hid HFN.out.f.row
    have HNL := Lib.hid HFN.out.l.row
    have HNO := Lib.hid HFN.out.o.row
    have HMK := Lib.hid (FM.out _ lC5)
    clear lC5 hfn hok hR hO hX hb5 hFN
    cases ok
    · go_wp2
      exact bodyPost_ret (v := .agg #[.slice a.b m.table.buckets.length a.bc, .slice a.f m.table.frames.length a.fc, .slice a.l m.cache.lines.length a.lc, .int .i64 m.cache.hand, .int .i64 m.tags.count, .int .i64 m.tags.next, .int .i64 m.tags.round, .slice a.o m.tags.owns.length a.oc, .int .i64 m.space]) (by simp [results, Tryd.results22, go_sem, *]) rfl
        ⟨m, a, p + 1 + 1 + 1, rfl, HMO.out, ⟨Fr.mono (B := lo) (by repeat' (first | with_reducible exact HMK.out.b | with_reducible refine Fr.alloc ?_ _ | with_reducible refine Fr.put ?_ (fun b hb => by have := HINB.out b hb; omega) _)) (Nat.le_refl _), Fr.mono (B := lo) (by repeat' (first | with_reducible exact HMK.out.f | with_reducible refine Fr.alloc ?_ _ | with_reducible refine Fr.put ?_ (fun b hb => by have := HINF.out b hb; omega) _)) (Nat.le_refl _), Fr.mono (B := lo) (by repeat' (first | with_reducible exact HMK.out.l | with_reducible refine Fr.alloc ?_ _ | with_reducible refine Fr.put ?_ (fun b hb => by have := HINL.out b hb; omega) _)) (Nat.le_refl _), Fr.mono (B := lo) (by repeat' (first | with_reducible exact HMK.out.o | with_reducible refine Fr.alloc ?_ _ | with_reducible refine Fr.put ?_ (fun b hb => by have := HINO.out b hb; omega) _)) (Nat.le_refl _)⟩, Rdr.chg (lo := gx + 1) (hi := gx + 1 + 1 + 1) HRE.out (by repeat' (first | with_reducible exact Chg.refl _ _ w5 | with_reducible refine Chg.alloc ?_ _ | with_reducible refine Chg.drew ?_ | with_reducible refine Chg.set ?_ (by omega) _)) (by omega), by omega, Chg.grown (by repeat' (first | with_reducible exact EW.out | with_reducible refine Chg.alloc ?_ _ | with_reducible refine Chg.drew ?_ | with_reducible refine Chg.set ?_ (by omega) _))⟩
    · go_wp2
      exact bodyPost_ret (v := .agg #[.slice an.b n.table.buckets.length an.bc, .slice an.f n.table.frames.length an.fc, .slice an.l n.cache.lines.length an.lc, .int .i64 n.cache.hand, .int .i64 n.tags.count, .int .i64 n.tags.next, .int .i64 n.tags.round, .slice an.o n.tags.owns.length an.oc, .int .i64 n.space]) (by simp [results, Tryd.results22, go_sem, *]) rfl
        ⟨n, an, p + 1 + 1 + 1, rfl, HOKN.out (by simp), ⟨Fr.mono (B := w1.heap.size) (by repeat' (first | with_reducible exact HFN.out.b | with_reducible refine Fr.alloc ?_ _ | with_reducible refine Fr.put ?_ (fun b hb => by have := HNB.out b hb; omega) _)) (by omega), Fr.mono (B := w1.heap.size) (by repeat' (first | with_reducible exact HFN.out.f | with_reducible refine Fr.alloc ?_ _ | with_reducible refine Fr.put ?_ (fun b hb => by have := HNF.out b hb; omega) _)) (by omega), Fr.mono (B := w1.heap.size) (by repeat' (first | with_reducible exact HFN.out.l | with_reducible refine Fr.alloc ?_ _ | with_reducible refine Fr.put ?_ (fun b hb => by have := HNL.out b hb; omega) _)) (by omega), Fr.mono (B := w1.heap.size) (by repeat' (first | with_reducible exact HFN.out.o | with_reducible refine Fr.alloc ?_ _ | with_reducible refine Fr.put ?_ (fun b hb => by have := HNO.out b hb; omega) _)) (by omega)⟩, Rdr.chg (lo := gx + 1) (hi := gx + 1 + 1 + 1) HRE.out (by repeat' (first | with_reducible exact Chg.refl _ _ w5 | with_reducible refine Chg.alloc ?_ _ | with_reducible refine Chg.drew ?_ | with_reducible refine Chg.set ?_ (by omega) _)) (by omega), by omega, Chg.grown (by repeat' (first | with_reducible exact EW.out | with_reducible refine Chg.alloc ?_ _ | with_reducible refine Chg.drew ?_ | with_reducible refine Chg.set ?_ (by omega) _))⟩
end Go.Proofs.YtmipkeabfglfaaaDoor
/- Drawn machines: l6Draw; a valid machine comes back. -/
namespace Go.Proofs.YtmipkeabfglfaaaDoor
open Go.ChangeShapes Go.WideShapes Go.ChangeAt Go.RowKit
open Rec (sz cs)
set_option linter.unusedVariables false
set_option maxRecDepth 100000

/-- What holds at the head of l6Draw's loop. -/
def DrawLoop6 (g gO p : Nat) (w : World) (i : Value) (wr : World) : Prop := ∃ (k : Nat) (m : MachD) (a : MA) (p' : Nat), i = .int .i64 k ∧ k ≤ 15 ∧ MachOk m ∧ Blk wr gO 34 [.slice a.b m.table.buckets.length a.bc, .slice a.f m.table.frames.length a.fc, .slice a.l m.cache.lines.length a.lc, .int .i64 m.cache.hand, .int .i64 m.tags.count, .int .i64 m.tags.next, .int .i64 m.tags.round, .slice a.o m.tags.owns.length a.oc, .int .i64 m.space] ∧ FrM wr w.heap.size m a ∧ Rdr wr g p' ∧ p' + 6 * k ≤ p + 100 ∧ Chg g (g + 1) w wr ∧ Blk wr w.heap.size 34 [.slice none 0 0, .slice none 0 0, .slice none 0 0, .int .i64 0, .int .i64 0, .int .i64 0, .int .i64 0, .slice none 0 0, .int .i64 0]

set_option maxHeartbeats 8000000 in
theorem l6Draw_c (g p : Nat) (w : World) (h : Rdr w g p) (hp : p ≤ 700000) : Calls Tryd.prog 20 #[.pointer (some ⟨g, 0, none⟩)] w (SomeMach g p w.heap.size 100 MachOk w) := by
  have lg := h.lt
  have HR0 := Lib.hid h
  clear h
  go_enter Tryd.func20, Tryd.ntmps20
  go_wp2_with fail
  refine name_calls ?_; intro v1 hv1
  have X1 : Hid (Chg (0) (0) w v1) := Lib.hid (by rw [hv1]; repeat' (first | with_reducible exact Chg.refl _ _ _ | with_reducible refine Chg.alloc ?_ _ | with_reducible refine Chg.drew ?_ | with_reducible refine Chg.set ?_ (by omega) _))
  have t1 : w.heap.size ≤ v1.heap.size := X1.out.size
  have Ev1 : Hid (Chg g (g + 1) w v1) := Lib.hid ((Chg.refl g (g + 1) w).step X1.out (by omega))
  replace HR0 := Lib.hid (HR0.out.chg X1.out (by omega))
  have L1 : Hid (Rd v1 (some ⟨w.heap.size + 1, 0, none⟩) ([6, 4, 8] : List Int)) := Lib.hid (by rw [hv1]; repeat' (first | exact Rd.lits _ _ _ | exact Rd.lits_at _ _ _ (by simp) | with_reducible refine Rd.alloc ?_ _))
  have KR : Hid (Blk v1 (w.heap.size) 34 [.slice none 0 0, .slice none 0 0, .slice none 0 0, .int .i64 0, .int .i64 0, .int .i64 0, .int .i64 0, .slice none 0 0, .int .i64 0]) := Lib.hid (by rw [hv1]; repeat' (first | with_reducible exact Blk.new_at _ _ _ (by simp) | with_reducible refine Blk.alloc ?_ _ | with_reducible refine Blk.drew ?_ | with_reducible refine Blk.far ?_ (by simp; omega) _))
  have lR : w.heap.size < v1.heap.size := KR.out.lt
  clear hv1
  refine (num_c g p _ 0 _ [6, 4, 8] _ HR0.out L1.out (by simp) (by simp) (by omega) (by omega)).mono ?_; rintro r w1 ⟨n1, rfl, hhn1, hrd1, hb1⟩
  have Y1 : Hid (Chg (g) (g + 1) v1 w1) := Lib.hid (Chg.of_grown hb1 (fun b hb => by injection hb with hb; omega))
  have s1 : v1.heap.size ≤ w1.heap.size := Y1.out.size
  have Ew1 : Hid (Chg g (g + 1) w w1) := Lib.hid (Ev1.out.step Y1.out (by omega))
  clear hb1
  replace KR := Lib.hid (KR.out.chg Y1.out (by omega))
  clear HR0
  have HRD1 := Lib.hid hrd1; clear hrd1
  have HHN1 := Lib.hid hhn1; clear hhn1
  obtain ⟨qR0, qR1, qR2, qR3, qR4, qR5, qR6, qR7, qR8⟩ := KR.out.c9
  have jR := KR.out.lt
  go_wp2_with fail
  refine name_calls ?_; intro v2 hv2
  have X2 : Hid (Chg (0) (0) w1 v2) := Lib.hid (by rw [hv2]; repeat' (first | with_reducible exact Chg.refl _ _ _ | with_reducible refine Chg.alloc ?_ _ | with_reducible refine Chg.drew ?_ | with_reducible refine Chg.set ?_ (by omega) _))
  have t2 : w1.heap.size ≤ v2.heap.size := X2.out.size
  have Ev2 : Hid (Chg g (g + 1) w v2) := Lib.hid (Ew1.out.step X2.out (by omega))
  clear qR0 qR1 qR2 qR3 qR4 qR5 qR6 qR7 qR8 jR
  replace KR := Lib.hid (KR.out.chg X2.out (by omega))
  replace HRD1 := Lib.hid (HRD1.out.chg X2.out (by omega))
  have L2 : Hid (Rd v2 (some ⟨w1.heap.size, 0, none⟩) ([4, 2, 1] : List Int)) := Lib.hid (by rw [hv2]; repeat' (first | exact Rd.lits _ _ _ | exact Rd.lits_at _ _ _ (by simp) | with_reducible refine Rd.alloc ?_ _))
  clear hv2
  refine (num_c g (p + 1) _ 0 _ [4, 2, 1] _ HRD1.out L2.out (by simp) (by simp) (by omega) (by omega)).mono ?_; rintro r w2 ⟨n2, rfl, hhn2, hrd2, hb2⟩
  have Y2 : Hid (Chg (g) (g + 1) v2 w2) := Lib.hid (Chg.of_grown hb2 (fun b hb => by injection hb with hb; omega))
  have s2 : v2.heap.size ≤ w2.heap.size := Y2.out.size
  have Ew2 : Hid (Chg g (g + 1) w w2) := Lib.hid (Ev2.out.step Y2.out (by omega))
  clear hb2
  replace KR := Lib.hid (KR.out.chg Y2.out (by omega))
  clear HRD1
  have HRD2 := Lib.hid hrd2; clear hrd2
  have HHN2 := Lib.hid hhn2; clear hhn2
  obtain ⟨qR0, qR1, qR2, qR3, qR4, qR5, qR6, qR7, qR8⟩ := KR.out.c9
  have jR := KR.out.lt
  go_wp2_with fail
  refine name_calls ?_; intro v3 hv3
  have X3 : Hid (Chg (0) (0) w2 v3) := Lib.hid (by rw [hv3]; repeat' (first | with_reducible exact Chg.refl _ _ _ | with_reducible refine Chg.alloc ?_ _ | with_reducible refine Chg.drew ?_ | with_reducible refine Chg.set ?_ (by omega) _))
  have t3 : w2.heap.size ≤ v3.heap.size := X3.out.size
  have Ev3 : Hid (Chg g (g + 1) w v3) := Lib.hid (Ew2.out.step X3.out (by omega))
  clear qR0 qR1 qR2 qR3 qR4 qR5 qR6 qR7 qR8 jR
  replace KR := Lib.hid (KR.out.chg X3.out (by omega))
  replace HRD2 := Lib.hid (HRD2.out.chg X3.out (by omega))
  have L3 : Hid (Rd v3 (some ⟨w2.heap.size, 0, none⟩) ([3, 2, 4, 1] : List Int)) := Lib.hid (by rw [hv3]; repeat' (first | exact Rd.lits _ _ _ | exact Rd.lits_at _ _ _ (by simp) | with_reducible refine Rd.alloc ?_ _))
  clear hv3
  refine (num_c g (p + 1 + 1) _ 0 _ [3, 2, 4, 1] _ HRD2.out L3.out (by simp) (by simp) (by omega) (by omega)).mono ?_; rintro r w3 ⟨n3, rfl, hhn3, hrd3, hb3⟩
  have Y3 : Hid (Chg (g) (g + 1) v3 w3) := Lib.hid (Chg.of_grown hb3 (fun b hb => by injection hb with hb; omega))
  have s3 : v3.heap.size ≤ w3.heap.size := Y3.out.size
  have Ew3 : Hid (Chg g (g + 1) w w3) := Lib.hid (Ev3.out.step Y3.out (by omega))
  clear hb3
  replace KR := Lib.hid (KR.out.chg Y3.out (by omega))
  clear HRD2
  have HRD3 := Lib.hid hrd3; clear hrd3
  have HHN3 := Lib.hid hhn3; clear hhn3
  obtain ⟨qR0, qR1, qR2, qR3, qR4, qR5, qR6, qR7, qR8⟩ := KR.out.c9
  have jR := KR.out.lt
  go_wp2_with fail
  refine name_calls ?_; intro v4 hv4
  have X4 : Hid (Chg (0) (0) w3 v4) := Lib.hid (by rw [hv4]; repeat' (first | with_reducible exact Chg.refl _ _ _ | with_reducible refine Chg.alloc ?_ _ | with_reducible refine Chg.drew ?_ | with_reducible refine Chg.set ?_ (by omega) _))
  have t4 : w3.heap.size ≤ v4.heap.size := X4.out.size
  have Ev4 : Hid (Chg g (g + 1) w v4) := Lib.hid (Ew3.out.step X4.out (by omega))
  clear qR0 qR1 qR2 qR3 qR4 qR5 qR6 qR7 qR8 jR
  replace KR := Lib.hid (KR.out.chg X4.out (by omega))
  replace HRD3 := Lib.hid (HRD3.out.chg X4.out (by omega))
  have L4 : Hid (Rd v4 (some ⟨w3.heap.size, 0, none⟩) ([2, 3, 1] : List Int)) := Lib.hid (by rw [hv4]; repeat' (first | exact Rd.lits _ _ _ | exact Rd.lits_at _ _ _ (by simp) | with_reducible refine Rd.alloc ?_ _))
  clear hv4
  refine (num_c g (p + 1 + 1 + 1) _ 0 _ [2, 3, 1] _ HRD3.out L4.out (by simp) (by simp) (by omega) (by omega)).mono ?_; rintro r w4 ⟨n4, rfl, hhn4, hrd4, hb4⟩
  have Y4 : Hid (Chg (g) (g + 1) v4 w4) := Lib.hid (Chg.of_grown hb4 (fun b hb => by injection hb with hb; omega))
  have s4 : v4.heap.size ≤ w4.heap.size := Y4.out.size
  have Ew4 : Hid (Chg g (g + 1) w w4) := Lib.hid (Ev4.out.step Y4.out (by omega))
  clear hb4
  replace KR := Lib.hid (KR.out.chg Y4.out (by omega))
  clear HRD3
  have HRD4 := Lib.hid hrd4; clear hrd4
  have HHN4 := Lib.hid hhn4; clear hhn4
  obtain ⟨qR0, qR1, qR2, qR3, qR4, qR5, qR6, qR7, qR8⟩ := KR.out.c9
  have jR := KR.out.lt
  have HMO : Hid (MachOk (newMach n1 n2 n3 n4).1) := Lib.hid (by
    have h1 := HHN1.out; have h2 := HHN2.out; have h3 := HHN3.out; have h4 := HHN4.out
    simp at h1 h2 h3 h4
    exact newMach_ok (by omega) (by omega) (by omega) (by omega))
  have C5 := Lib.hid (newMachS_c n1 n2 n3 n4)
  generalize newMach n1 n2 n3 n4 = q at C5 HMO
  obtain ⟨m0, ok0⟩ := q
  dsimp only at C5 HMO
  go_wp2_with fail
  refine name_calls ?_; intro v5 hv5
  have X5 : Hid (Chg (0) (0) w4 v5) := Lib.hid (by rw [hv5]; repeat' (first | with_reducible exact Chg.refl _ _ _ | with_reducible refine Chg.alloc ?_ _ | with_reducible refine Chg.drew ?_ | with_reducible refine Chg.set ?_ (by omega) _))
  have t5 : w4.heap.size ≤ v5.heap.size := X5.out.size
  have Ev5 : Hid (Chg g (g + 1) w v5) := Lib.hid (Ew4.out.step X5.out (by omega))
  clear qR0 qR1 qR2 qR3 qR4 qR5 qR6 qR7 qR8 jR
  replace KR := Lib.hid (KR.out.chg X5.out (by omega))
  replace HRD4 := Lib.hid (HRD4.out.chg X5.out (by omega))
  clear hv5
  refine (C5.out _).mono ?_; rintro r w5 ⟨a5, rfl, ⟨hfa, hfb, hfc, hfd⟩, hb5⟩
  have Y5 : Hid (Chg 0 0 v5 w5) := Lib.hid (Chg.of_ex hb5)
  have s5 : v5.heap.size ≤ w5.heap.size := Y5.out.size
  have Ew5 : Hid (Chg g (g + 1) w w5) := Lib.hid (Ev5.out.step Y5.out (by omega))
  clear hb5
  replace KR := Lib.hid (KR.out.chg Y5.out (by omega))
  replace HRD4 := Lib.hid (HRD4.out.chg Y5.out (by omega))
  have HFA := Lib.hid hfa; clear hfa
  have WHFA := Lib.hid HFA.out.row
  have HFB := Lib.hid hfb; clear hfb
  have WHFB := Lib.hid HFB.out.row
  have HFC := Lib.hid hfc; clear hfc
  have WHFC := Lib.hid HFC.out.row
  have HFD := Lib.hid hfd; clear hfd
  have WHFD := Lib.hid HFD.out.row
  obtain ⟨qR0, qR1, qR2, qR3, qR4, qR5, qR6, qR7, qR8⟩ := KR.out.c9
  have jR := KR.out.lt
  go_wp2_with fail
  refine name_calls ?_; intro v6 hv6
  have X6 : Hid (Chg (0) (0) w5 v6) := Lib.hid (by rw [hv6]; repeat' (first | with_reducible exact Chg.refl _ _ _ | with_reducible refine Chg.alloc ?_ _ | with_reducible refine Chg.drew ?_ | with_reducible refine Chg.set ?_ (by omega) _))
  have t6 : w5.heap.size ≤ v6.heap.size := X6.out.size
  have Ev6 : Hid (Chg g (g + 1) w v6) := Lib.hid (Ew5.out.step X6.out (by omega))
  clear qR0 qR1 qR2 qR3 qR4 qR5 qR6 qR7 qR8 jR
  replace KR := Lib.hid (KR.out.chg X6.out (by omega))
  replace HFA := Lib.hid (HFA.out.chg X6.out WHFA.out (by omega))
  replace HFB := Lib.hid (HFB.out.chg X6.out WHFB.out (by omega))
  replace HFC := Lib.hid (HFC.out.chg X6.out WHFC.out (by omega))
  replace HFD := Lib.hid (HFD.out.chg X6.out WHFD.out (by omega))
  replace HRD4 := Lib.hid (HRD4.out.chg X6.out (by omega))
  have KO : Hid (Blk v6 (w5.heap.size) 34 [.slice a5.b m0.table.buckets.length a5.bc, .slice a5.f m0.table.frames.length a5.fc, .slice a5.l m0.cache.lines.length a5.lc, .int .i64 m0.cache.hand, .int .i64 m0.tags.count, .int .i64 m0.tags.next, .int .i64 m0.tags.round, .slice a5.o m0.tags.owns.length a5.oc, .int .i64 m0.space]) := Lib.hid (by rw [hv6]; repeat' (first | with_reducible exact Blk.new_at _ _ _ (by simp) | with_reducible refine Blk.alloc ?_ _ | with_reducible refine Blk.drew ?_ | with_reducible refine Blk.far ?_ (by simp; omega) _))
  have lO : w5.heap.size < v6.heap.size := KO.out.lt
  clear hv6
  refine (pick_c g (p + 1 + 1 + 1 + 1) 10 _ HRD4.out (by omega) (by omega)).mono ?_; rintro r w6 ⟨z6, rfl, hhz6, hrd6, hb6⟩
  have Y6 : Hid (Chg (g) (g + 1) v6 w6) := Lib.hid (Chg.of_grown hb6 (fun b hb => by injection hb with hb; omega))
  have s6 : v6.heap.size ≤ w6.heap.size := Y6.out.size
  have Ew6 : Hid (Chg g (g + 1) w w6) := Lib.hid (Ev6.out.step Y6.out (by omega))
  clear hb6
  replace KR := Lib.hid (KR.out.chg Y6.out (by omega))
  replace KO := Lib.hid (KO.out.chg Y6.out (by omega))
  replace HFA := Lib.hid (HFA.out.chg Y6.out WHFA.out (by omega))
  replace HFB := Lib.hid (HFB.out.chg Y6.out WHFB.out (by omega))
  replace HFC := Lib.hid (HFC.out.chg Y6.out WHFC.out (by omega))
  replace HFD := Lib.hid (HFD.out.chg Y6.out WHFD.out (by omega))
  clear HRD4
  have HRD6 := Lib.hid hrd6; clear hrd6
  have HHZ6 := Lib.hid hhz6; clear hhz6
  obtain ⟨qR0, qR1, qR2, qR3, qR4, qR5, qR6, qR7, qR8⟩ := KR.out.c9
  have jR := KR.out.lt
  obtain ⟨qO0, qO1, qO2, qO3, qO4, qO5, qO6, qO7, qO8⟩ := KO.out.c9
  have jO := KO.out.lt
  have hz6 : 0 ≤ z6 ∧ z6 < 10 := ⟨HHZ6.out.1, HHZ6.out.2.1 (by omega)⟩
  obtain ⟨k6, rfl⟩ := Int.eq_ofNat_of_zero_le hz6.1
  obtain ⟨gO, hgO⟩ : ∃ gO, gO = w5.heap.size := ⟨_, rfl⟩
  rw [← hgO] at KO lO jO qO0 qO1 qO2 qO3 qO4 qO5 qO6 qO7 qO8 ⊢
  have hgOw : w.heap.size < gO := by omega
  have hgOg : ¬ gO = g := by omega
  have HST : Hid (DrawLoop6 g gO p w (.int .i64 ((6 + k6 : Nat) : Int)) w6) := Lib.hid ⟨6 + k6, m0, a5, p + 1 + 1 + 1 + 1 + 1, rfl, by omega, HMO.out, KO.out, ⟨HFA.out.mono (by omega), HFB.out.mono (by omega), HFC.out.mono (by omega), HFD.out.mono (by omega)⟩, HRD6.out, by omega, Ew6.out, KR.out⟩
  have HK6 : Hid ((6 : Int) + (k6 : Int) = ((6 + k6 : Nat) : Int)) := Lib.hid (by omega)
  have hk61 : (k6 : Int) < 10 := by omega
  have hk60 : (0 : Int) ≤ (k6 : Int) := by omega
  have hk62 : k6 < 10 := by omega
  clear hgO HHN1 HHN2 HHN3 HHN4 HHZ6 C5 qO0 qO1 qO2 qO3 qO4 qO5 qO6 qO7 qO8 jO lO KO qR0 qR1 qR2 qR3 qR4 qR5 qR6 qR7 qR8 jR KR HFA HFB HFC HFD WHFA WHFB WHFC WHFD HRD6 HMO hz6
  go_wp2
  go_loopw [5] (fun i wr => DrawLoop6 g gO p w i wr) (fun i _ => (intOf i).toNat)
  case atStart => first | exact HST.out | (rw [HK6.out]; exact HST.out)
  case round =>
    clear HST HK6 hk62 hk61 hk60
    obtain ⟨k, m, a, p1, rfl, hk, hmo, hko, hfm, hrd, hp1, hch, hkr⟩ := hrel
    have HMO := Lib.hid hmo
    have KO := Lib.hid hko
    have HFM := Lib.hid hfm
    have HRD := Lib.hid hrd
    have Ewr := Lib.hid hch
    have KR := Lib.hid hkr
    have hsz := Ewr.out.size
    clear hmo hko hfm hrd hch hkr
    by_cases hlt : 0 < k
    · have hlt' : (0 : Int) < (k : Int) := by omega
      have hkk : (k : Int) - 1 = ((k - 1 : Nat) : Int) := by omega
      have HKK := Lib.hid hkk
      clear hkk
      obtain ⟨o0, o1, o2, o3, o4, o5, o6, o7, o8⟩ := KO.out.c9
      have ol := KO.out.lt
      go_wp2_with fail
      refine (l6Step_c g p1 w.heap.size m a _ HRD.out (by omega) (by omega) (by omega) HMO.out HFM.out).mono ?_
      rintro r w2 ⟨n, an, p2, rfl, hno, hfn, hr2, hp2, hg2⟩
      clear o0 o1 o2 o3 o4 o5 o6 o7 o8 ol
      have hC2 : Chg g (g + 1) wr w2 := Chg.of_grown hg2 (fun b hb => by injection hb with hb; omega)
      have KO2 := Lib.hid (KO.out.chg hC2 (by omega))
      have KR2 := Lib.hid (KR.out.chg hC2 (by omega))
      have Ew2 := Lib.hid (Ewr.out.trans hC2)
      have HFN := Lib.hid hfn
      have HNO := Lib.hid hno
      have HRD2 := Lib.hid hr2
      have hs2 := hC2.size
      have HNB := Lib.hid (HFN.out.b.off KO2.out (by decide))
      have HNF := Lib.hid (HFN.out.f.off KO2.out (by decide))
      have HNL := Lib.hid (HFN.out.l.off KO2.out (by decide))
      have HNT := Lib.hid (HFN.out.o.off KO2.out (by decide))
      clear hC2 hg2 hfn hno hr2
      obtain ⟨o0, o1, o2, o3, o4, o5, o6, o7, o8⟩ := KO2.out.c9
      have ol := KO2.out.lt
      have oz := KO2.out.frozen
      go_wp2
      go_roundw
      case rel => exact ⟨k - 1, n, an, p2, by first | rfl | (rw [HKK.out]), by omega, HNO.out, Blk.put9 KO2.out, ⟨by repeat' (first | with_reducible exact HFN.out.b | with_reducible refine Fr.put ?_ HNB.out _), by repeat' (first | with_reducible exact HFN.out.f | with_reducible refine Fr.put ?_ HNF.out _), by repeat' (first | with_reducible exact HFN.out.l | with_reducible refine Fr.put ?_ HNL.out _), by repeat' (first | with_reducible exact HFN.out.o | with_reducible refine Fr.put ?_ HNT.out _)⟩, Rdr.chg (lo := gO) (hi := gO + 1) HRD2.out (by repeat' (first | with_reducible exact Chg.refl _ _ w2 | with_reducible refine Chg.alloc ?_ _ | with_reducible refine Chg.drew ?_ | with_reducible refine Chg.set ?_ (by omega) _)) (by omega), by omega, (by repeat' (first | with_reducible exact Ew2.out | with_reducible refine Chg.alloc ?_ _ | with_reducible refine Chg.drew ?_ | with_reducible refine Chg.set ?_ (by omega) _)), by repeat' (first | with_reducible exact KR2.out | with_reducible refine Blk.far ?_ (by simp only; omega) _)⟩
      case measure => simp [intOf]; omega
    · have hk0 : k = 0 := by omega
      subst hk0
      obtain ⟨o0, o1, o2, o3, o4, o5, o6, o7, o8⟩ := KO.out.c9
      have ol := KO.out.lt
      obtain ⟨qR0, qR1, qR2, qR3, qR4, qR5, qR6, qR7, qR8⟩ := KR.out.c9
      have jR := KR.out.lt
      have zR := KR.out.frozen
      have HNB := Lib.hid (HFM.out.b.off KR.out (by decide))
      have HNF := Lib.hid (HFM.out.f.off KR.out (by decide))
      have HNL := Lib.hid (HFM.out.l.off KR.out (by decide))
      have HNT := Lib.hid (HFM.out.o.off KR.out (by decide))
      go_wp2
      exact bodyPost_ret (v := .agg #[.slice a.b m.table.buckets.length a.bc, .slice a.f m.table.frames.length a.fc, .slice a.l m.cache.lines.length a.lc, .int .i64 m.cache.hand, .int .i64 m.tags.count, .int .i64 m.tags.next, .int .i64 m.tags.round, .slice a.o m.tags.owns.length a.oc, .int .i64 m.space]) (by simp [results, Tryd.results20, go_sem, *]) rfl
        ⟨m, a, p1, rfl, HMO.out, ⟨by repeat' (first | with_reducible exact HFM.out.b | with_reducible refine Fr.put ?_ HNB.out _), by repeat' (first | with_reducible exact HFM.out.f | with_reducible refine Fr.put ?_ HNF.out _), by repeat' (first | with_reducible exact HFM.out.l | with_reducible refine Fr.put ?_ HNL.out _), by repeat' (first | with_reducible exact HFM.out.o | with_reducible refine Fr.put ?_ HNT.out _)⟩, Rdr.chg (lo := w.heap.size) (hi := w.heap.size + 1) HRD.out (by repeat' (first | with_reducible exact Chg.refl _ _ wr | with_reducible refine Chg.alloc ?_ _ | with_reducible refine Chg.drew ?_ | with_reducible refine Chg.set ?_ (by omega) _)) (by omega), by omega, Chg.grown (by repeat' (first | with_reducible exact Ewr.out | with_reducible refine Chg.alloc ?_ _ | with_reducible refine Chg.drew ?_ | with_reducible refine Chg.set ?_ (by omega) _))⟩
end Go.Proofs.YtmipkeabfglfaaaDoor
/- A set of keys kept in a map of the call's own. -/
namespace Go.Proofs.YtmipkeabfglfaaaDoor
open Go.ChangeShapes Go.WideShapes Go.ChangeAt Go.RowKit
open Rec (sz cs)
set_option linter.unusedVariables false
set_option maxRecDepth 100000
open Go.Maps (Keyed)

theorem rowKey : (53 : TypeId) < Tryd.prog.types.size := of_decide_eq_true (by kernel_rfl)
theorem wideKey : (match Tryd.prog.underlying 53 with | some (.array _ _) | some (.struct _) => true | _ => false) = true := by rw [Tryd.underlying53]
theorem kKey : Keyed Tryd.prog 53 := Keyed.of_law (deep_law_laid laidOutRow (m := 2) (by omega) rowKey (by kernel_rfl) wideKey)
theorem cellsKey : Tryd.prog.cellsOf 53 = 2 := by kernel_rfl
theorem cellsInt : Tryd.prog.cellsOf 3 = 1 := by kernel_rfl
theorem typesKey : Tryd.prog.types.size + 1 = (Tryd.prog.types.size - 1) + 1 + 1 := by kernel_rfl
theorem keyTypeKey : Tryd.prog.keyType 53 = true := by kernel_rfl
theorem litsInt (d : Nat) (a : Int) (h : (Lit.int .i64 a).wf = true) : Tryd.prog.keyLits (d + 1) 3 [.int .i64 a] = some [.int .i64 a] := by
  unfold Program.keyLits
  rw [Tryd.underlying3]
  simp [h]
theorem litsKey (d : Nat) (a b : Int) (h1 : (Lit.int .i64 a).wf = true) (h2 : (Lit.int .i64 b).wf = true) : Tryd.prog.keyLits (d + 1 + 1) 53 [.int .i64 a, .int .i64 b] = some [.int .i64 a, .int .i64 b] := by
  unfold Program.keyLits
  rw [Tryd.underlying53]
  simp [cellsKey, cellsInt, litsInt d a h1, litsInt d b h2]
theorem keyOf_key (x : KeyD) (h1 : (Lit.int .i64 x.space).wf = true) (h2 : (Lit.int .i64 x.page).wf = true) : ∃ l, keyOf Tryd.prog 53 (.agg #[.int .i64 x.space, .int .i64 x.page]) = some l := by
  unfold keyOf
  rw [Tryd.underlying53]
  have hl := litsKey (Tryd.prog.types.size - 1) x.space x.page h1 h2
  rw [← typesKey] at hl
  have hf : (Value.agg #[.int .i64 x.space, .int .i64 x.page]).formed Tryd.prog 53 = true := by simp [Value.formed, Tryd.underlying53, cellsKey]
  refine ⟨.string (keyBytes [.int .i64 x.space, .int .i64 x.page]), ?_⟩
  show (if (Tryd.prog.keyType 53 && (Value.agg #[.int .i64 x.space, .int .i64 x.page]).formed Tryd.prog 53) = true then (Tryd.prog.keyLits (Tryd.prog.types.size + 1) 53 [.int .i64 x.space, .int .i64 x.page]).map (fun ls => Lit.string (keyBytes ls)) else none) = _
  rw [hl, hf, keyTypeKey]
  rfl

/-- A map of the call's own that holds true just at the keys of S (no key twice in S). -/
def HasKeys (w : World) (b n : Nat) (S : List KeyD) : Prop := ∃ D : DataW Unit, w.ownsMap Tryd.prog 53 (plainElem Tryd.prog 4) b n D ∧ Maps.IsMap D ∧ Maps.size D = S.length ∧ ∀ (x : KeyD) (l : Lit), keyOf Tryd.prog 53 (.agg #[.int .i64 x.space, .int .i64 x.page]) = some l → D.atKey l (.lit (.bool false)) = .lit (.bool (decide (x ∈ S))) ∧ Maps.has D l = decide (x ∈ S)
theorem HasKeys.made (w : World) : HasKeys (w.alloc (.map #[] 0)) w.heap.size 0 [] :=
  ⟨_, World.ownsMap_made w _ _ _, Maps.isMap_empty, rfl, fun x l h => by simp [DataW.atKey, Maps.has]⟩
theorem HasKeys.kept {w w' : World} {b n : Nat} {S : List KeyD} {row : Option Nat} (h : HasKeys w b n S) (hg : w.grownBy w' row) (hne : some b ≠ row) : HasKeys w' b n S := by
  obtain ⟨D, h1, h2⟩ := h
  exact ⟨D, h1.kept hg hne, h2⟩
theorem HasKeys.ex {w w' : World} {b n : Nat} {S : List KeyD} (h : HasKeys w b n S) (k : Ex w w') : HasKeys w' b n S :=
  h.kept (grown_ex (grown_refl w none) k) (by simp)
theorem HasKeys.lt {w : World} {b n : Nat} {S : List KeyD} (h : HasKeys w b n S) : b < w.heap.size := by
  obtain ⟨D, h1, _⟩ := h
  exact h1.lt
theorem HasKeys.look {w : World} {b n : Nat} {S : List KeyD} (h : HasKeys w b n S) (x : KeyD) {l : Lit} (hx : keyOf Tryd.prog 53 (.agg #[.int .i64 x.space, .int .i64 x.page]) = some l) :
    (Instr.lookup 104 (.map (some b)) (.agg #[.int .i64 x.space, .int .i64 x.page]) false).run Tryd.prog w = .ok (.bool (decide (x ∈ S))) w := by
  obtain ⟨D, h1, _, _, h2⟩ := h
  obtain ⟨v, ps, hrun, hv⟩ := h1.lookup kKey Tryd.underlying104 (z := .bool false) (by kernel_rfl) (plainElem_bool Tryd.underlying4 false) hx
  rw [(h2 x l hx).1] at hv
  rw [hrun]
  unfold plainElem at hv
  rw [Tryd.underlying4] at hv
  cases v <;> simp at hv
  rw [hv.1]
theorem HasKeys.put {w : World} {b n : Nat} {S : List KeyD} (h : HasKeys w b n S) (hn : n < maxLen) (x : KeyD) (hns : ¬ x ∈ S) {l : Lit} (hx : keyOf Tryd.prog 53 (.agg #[.int .i64 x.space, .int .i64 x.page]) = some l) :
    ∃ w', (Instr.mapUpdate 104 (.map (some b)) (.agg #[.int .i64 x.space, .int .i64 x.page]) (.bool true)).run Tryd.prog w = .ok () w' ∧ HasKeys w' b (n + 1) (x :: S) ∧ w.grownBy w' (some b) := by
  obtain ⟨D, h1, hm, hz, h2⟩ := h
  obtain ⟨w', hrun, h3, h4⟩ := h1.update kKey Tryd.underlying104 hn hx (plainElem_bool Tryd.underlying4 true)
  refine ⟨w', hrun, ⟨_, h3, hm.put _ _, ?_, fun y l' hy => ?_⟩, h4⟩
  · rw [Maps.size_put (h1.tidy kKey), (h2 x l hx).2, hz]
    simp [hns]
  · by_cases e : y = x
    · subst e
      have e2 : l' = l := by rw [hx] at hy; injection hy with hy; exact hy.symm
      subst e2
      rw [Maps.atKey_put_same hm (kKey.key hx), Maps.has_put_same hm (kKey.key hx)]
      simp
    · have hl : l' ≠ l := by
        intro hl
        subst hl
        have := kKey.inj hx hy
        apply e
        obtain ⟨a1, a2⟩ := x
        obtain ⟨b1, b2⟩ := y
        simp at this
        rw [this.1, this.2]
      rw [Maps.atKey_put_other hl, Maps.has_put_other hl, (h2 y l' hy).1, (h2 y l' hy).2]
      simp [e]
end Go.Proofs.YtmipkeabfglfaaaDoor
