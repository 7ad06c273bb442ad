/- Joined: Zh, Zc, Ze, Lr, Zi. -/
import Derived.Deep.DeepCutAuto
import Derived.Test.YtbdlpbladpppjaaGreatDoorK10
import Derived.Test.YtbdlpbladpppjaaGreatDoorK9
namespace Go.Proofs.YtbdlpbladpppjaaGreatDoor
open Go.ChangeShapes Go.WideShapes Go.ChangeAt Go.RowKit
open Rec (sz cs)
set_option linter.unusedVariables false
set_option maxRecDepth 100000

set_option maxHeartbeats 8000000 in
theorem wirePS_c (m : MachD) (a : MA) (p : Int) (w : World) (h : MachOk m) (hx : HasM w m a) (hc : CapM m a) (hk : CapX a) (hp : 128 ≤ p ∧ p < 256) :
  Calls Tryz.prog 93 #[.agg #[.slice a.b m.table.buckets.length a.bc, .slice a.f m.table.frames.length a.fc, .slice a.l m.cache.lines.length a.lc, .int .i64 m.cache.hand, .int .i64 m.tags.count, .int .i64 m.tags.next, .int .i64 m.tags.round, .slice a.o m.tags.owns.length a.oc, .int .i64 m.space], .int .i64 p] w (MachOr (wireM m p) w) := by
 have C1 := zq (fun w' (e : Ex w w') => touchS_c m a p 0 w' h (hx.ex e) hc hk (by omega) (by omega))
 have h2 := (touchM_ok h (page := p) (by omega)).1
 have hf := h2.fewM
 have C2 := zq (fun A c w' hr => l4Find_c (touchM m p).cache (-1) p A c w' hr hf.l)
 have C3 := zq (fun A c w' hr hc1 hc2 => wireS_c (touchM m p).cache (placeOf (touchM m p).cache.lines (-1) p) true A c w' hr hf.l hc1 hc2)
 unfold wireM
 clear h hx hc hk h2 hf
 unfold Touched at C1
 generalize touchM m p = n at C1 C2 C3 ⊢
 generalize touchF m p = tf at C1
 generalize placeOf n.cache.lines (-1) p = pl at C2 C3 ⊢
 generalize wireLine n.cache pl true = q at C3 ⊢
 obtain ⟨nc, ok⟩ := q
 dsimp only at C3 ⊢
 have hp1 : ¬ p < 128 := by omega
 clear hp
 cases hm : missM m p
 rotate_left
 ·simp only [if_true]
  have HM := zq hm
  clear hm
  go_enter Tryz.func93, Tryz.ntmps93
  go_wp2_with fail
  refine name_calls ?_; intro v1 hv1
  have X1 : Hid (Chg (0) (0) w v1) := zx hv1
  have t1 := X1.out.size
  have Ev1 := zq ((Ex.refl w).chg X1.out (by omega))
  have KX : Hid (Blk v1 (w.heap.size) 34 [.slice a.b m.table.buckets.length a.bc, .slice a.f m.table.frames.length a.fc, .slice a.l m.cache.lines.length a.lc, .int .i64 m.cache.hand, .int .i64 m.tags.count, .int .i64 m.tags.next, .int .i64 m.tags.round, .slice a.o m.tags.owns.length a.oc, .int .i64 m.space]) := zk hv1
  have lX : w.heap.size < v1.heap.size := KX.out.lt
  have KR : Hid (Blk v1 (w.heap.size + 1) 34 [.slice none 0 0, .slice none 0 0, .slice none 0 0, .int .i64 0, .int .i64 0, .int .i64 0, .int .i64 0, .slice none 0 0, .int .i64 0]) := zk hv1
  have lR : w.heap.size + 1 < v1.heap.size := KR.out.lt
  clear hv1
  refine (C1.out _ Ev1.out).mono ?_; rintro r w1 ⟨a1, oc, rfl, ⟨hfa, hfb, hfc, hfd⟩, hoc, hom, hb1⟩
  have Y1 := zq (Chg.of_ex hb1)
  have s1 := Y1.out.size
  have Ew1 := zq (Ev1.out.chg Y1.out (by omega))
  clear hb1
  replace KX := zq (KX.out.chg Y1.out (by omega))
  replace KR := zq (KR.out.chg Y1.out (by omega))
  have HFA := zq hfa; clear hfa
  have WHFA := zq HFA.out.row
  have HFB := zq hfb; clear hfb
  have WHFB := zq HFB.out.row
  have HFC := zq hfc; clear hfc
  have WHFC := zq HFC.out.row
  have HFD := zq hfd; clear hfd
  have WHFD := zq HFD.out.row
  obtain ⟨qX0, qX1, qX2, qX3, qX4, qX5, qX6, qX7, qX8⟩ := KX.out.c9
  have jX := KX.out.lt
  obtain ⟨qR0, qR1, qR2, qR3, qR4, qR5, qR6, qR7, qR8⟩ := KR.out.c9
  have jR := KR.out.lt
  have zR := KR.out.frozen
  obtain rfl : oc = 3 := hom.2 HM.out
  clear hom hoc
  go_wp2
  exact bodyPost_ret (v := .tuple #[.agg #[.slice none 0 0, .slice none 0 0, .slice none 0 0, .int .i64 0, .int .i64 0, .int .i64 0, .int .i64 0, .slice none 0 0, .int .i64 0], .bool false]) (by simp [results, Tryz.results93, go_sem, *]) rfl
   ⟨⟨none, 0, none, 0, none, 0, none, 0⟩, rfl, ⟨Fr.none_ _ _ _ _, Fr.none_ _ _ _ _, Fr.none_ _ _ _ _, Fr.none_ _ _ _ _⟩, (ze Ew1.out)⟩
 simp only [Bool.false_eq_true, if_false]
 have HM := zq hm
 clear hm
 generalize hz : (if ok = true then ((⟨n.table, nc, n.tags, n.space⟩ : MachD), true) else (noMach, false)) = z
 have HZ := zq hz
 clear hz
 go_enter Tryz.func93, Tryz.ntmps93
 go_wp2_with fail
 refine name_calls ?_; intro v1 hv1
 have X1 : Hid (Chg (0) (0) w v1) := zx hv1
 have t1 := X1.out.size
 have Ev1 := zq ((Ex.refl w).chg X1.out (by omega))
 have KX : Hid (Blk v1 (w.heap.size) 34 [.slice a.b m.table.buckets.length a.bc, .slice a.f m.table.frames.length a.fc, .slice a.l m.cache.lines.length a.lc, .int .i64 m.cache.hand, .int .i64 m.tags.count, .int .i64 m.tags.next, .int .i64 m.tags.round, .slice a.o m.tags.owns.length a.oc, .int .i64 m.space]) := zk hv1
 have lX : w.heap.size < v1.heap.size := KX.out.lt
 have KR : Hid (Blk v1 (w.heap.size + 1) 34 [.slice none 0 0, .slice none 0 0, .slice none 0 0, .int .i64 0, .int .i64 0, .int .i64 0, .int .i64 0, .slice none 0 0, .int .i64 0]) := zk hv1
 have lR : w.heap.size + 1 < v1.heap.size := KR.out.lt
 clear hv1
 refine (C1.out _ Ev1.out).mono ?_; rintro r w1 ⟨a1, oc, rfl, ⟨hfa, hfb, hfc, hfd⟩, hoc, hom, hb1⟩
 have Y1 := zq (Chg.of_ex hb1)
 have s1 := Y1.out.size
 have Ew1 := zq (Ev1.out.chg Y1.out (by omega))
 clear hb1
 replace KX := zq (KX.out.chg Y1.out (by omega))
 replace KR := zq (KR.out.chg Y1.out (by omega))
 have HFA := zq hfa; clear hfa
 have WHFA := zq HFA.out.row
 have HFB := zq hfb; clear hfb
 have WHFB := zq HFB.out.row
 have HFC := zq hfc; clear hfc
 have WHFC := zq HFC.out.row
 have HFD := zq hfd; clear hfd
 have WHFD := zq HFD.out.row
 obtain ⟨qX0, qX1, qX2, qX3, qX4, qX5, qX6, qX7, qX8⟩ := KX.out.c9
 have jX := KX.out.lt
 obtain ⟨qR0, qR1, qR2, qR3, qR4, qR5, qR6, qR7, qR8⟩ := KR.out.c9
 have jR := KR.out.lt
 have zR := KR.out.frozen
 have hoc3 : (oc == 3) = false := by
  have : oc ≠ 3 := fun e => by have := hom.1 e; rw [HM.out] at this; cases this
  simpa using this
 clear hom hoc HM
 go_wp2_with fail
 obtain ⟨w2, hw2⟩ : ∃ w2 : World, w2 = w1.alloc (.cells #[.slice a1.b n.table.buckets.length a1.bc, .slice a1.f n.table.frames.length a1.fc, .slice a1.l n.cache.lines.length a1.lc, .int .i64 n.cache.hand, .int .i64 n.tags.count, .int .i64 n.tags.next, .int .i64 n.tags.round, .slice a1.o n.tags.owns.length a1.oc, .int .i64 n.space] 34) := ⟨_, rfl⟩
 have Y2 : Hid (Chg 0 0 w1 w2) := zq (by rw [hw2]; exact (Chg.refl _ _ _).alloc _)
 have KO : Hid (Blk w2 w1.heap.size 34 [.slice a1.b n.table.buckets.length a1.bc, .slice a1.f n.table.frames.length a1.fc, .slice a1.l n.cache.lines.length a1.lc, .int .i64 n.cache.hand, .int .i64 n.tags.count, .int .i64 n.tags.next, .int .i64 n.tags.round, .slice a1.o n.tags.owns.length a1.oc, .int .i64 n.space]) := zq (by rw [hw2]; exact Blk.new _ _ _)
 obtain ⟨gO, hgO⟩ : ∃ gO, gO = w1.heap.size := ⟨_, rfl⟩
 rw [← hw2, ← hgO]
 rw [← hgO] at KO
 clear hw2
 have s2 := Y2.out.size
 have Ew2 := zq (Ew1.out.chg Y2.out (by omega))
 clear qX0 qX1 qX2 qX3 qX4 qX5 qX6 qX7 qX8 jX
 clear qR0 qR1 qR2 qR3 qR4 qR5 qR6 qR7 qR8 jR zR
 replace KX := zq (KX.out.chg Y2.out (by omega))
 replace KR := zq (KR.out.chg Y2.out (by omega))
 replace HFA := zq (HFA.out.chg Y2.out WHFA.out (by omega))
 replace HFB := zq (HFB.out.chg Y2.out WHFB.out (by omega))
 replace HFC := zq (HFC.out.chg Y2.out WHFC.out (by omega))
 replace HFD := zq (HFD.out.chg Y2.out WHFD.out (by omega))
 obtain ⟨qX0, qX1, qX2, qX3, qX4, qX5, qX6, qX7, qX8⟩ := KX.out.c9
 have jX := KX.out.lt
 obtain ⟨qR0, qR1, qR2, qR3, qR4, qR5, qR6, qR7, qR8⟩ := KR.out.c9
 have jR := KR.out.lt
 have zR := KR.out.frozen
 have hgO2 : w.heap.size + 1 < gO ∧ gO < w2.heap.size ∧ w1.heap.size ≤ gO := by have := KO.out.lt; omega
 clear hgO
 obtain ⟨qO0, qO1, qO2, qO3, qO4, qO5, qO6, qO7, qO8⟩ := KO.out.c9
 have jO := KO.out.lt
 clear qX0 qX1 qX2 qX3 qX4 qX5 qX6 qX7 qX8 jX
 clear qR0 qR1 qR2 qR3 qR4 qR5 qR6 qR7 qR8 jR zR
 clear qO0 qO1 qO2 qO3 qO4 qO5 qO6 qO7 qO8 jO
 have FK : Hid (∀ w', Ex w2 w' → (w'.cell? ⟨gO, 2, none⟩ = some (.slice a1.l n.cache.lines.length a1.lc) ∧ w'.cell? ⟨gO, 3, none⟩ = some (.int .i64 n.cache.hand))) := zq (fun w' h => ⟨(KO.out.ex h).c9.2.2.1, (KO.out.ex h).c9.2.2.2.1⟩)
 have HLC : Hid (n.cache.lines.length ≤ a1.lc ∧ a1.lc ≤ maxLen) := zq ⟨HFC.out.le, HFC.out.cap⟩
 go_cut [10, 11] (fun s10 s11 wx => ∃ (gT : Nat) (A : Option Addr) (c : Nat), s10 = .pointer (some ⟨gT, 0, none⟩) ∧ s11 = .bool ok ∧ Blk wx gT 29 [.slice A nc.lines.length c, .int .i64 nc.hand] ∧ Fr 64 wx w2.heap.size A c nc.lines ∧ w2.heap.size ≤ gT ∧ (∀ b, rowOf A c = some b → b ≠ gT) ∧ Ex w2 wx)
 case first =>
  go_region_held3 (fun w' => (w'.cell? ⟨gO, 2, none⟩ = some (.slice a1.l n.cache.lines.length a1.lc) ∧ w'.cell? ⟨gO, 3, none⟩ = some (.int .i64 n.cache.hand))) (first | (refine FK.out _ ?_; with_reducible (first | exact Ex.refl _ | exact (Ex.refl _).drew | exact ((Ex.refl _).alloc _).drew | exact hE1 | exact hE1.alloc _ | exact hE2 | exact hE2.alloc _ | exact (hE2.put hE1.size _).put hE1.size _ | exact (hE2.put (Nat.le_refl _) _).put (Nat.le_refl _) _)) | go_keep) (first
   | (go_at_call 104; (with_reducible refine (C2.out _ _ _ ?_).mono ?_); (exact HFC.out.rd.ex (by with_reducible repeat' (first | exact Ex.refl _ | refine Ex.alloc ?_ _ | refine Ex.drew ?_))); rintro r w3 ⟨rfl, hb3⟩; have hE1 : Ex w2 w3 := Ex.trans (by with_reducible repeat' (first | exact Ex.refl _ | refine Ex.alloc ?_ _ | refine Ex.drew ?_)) hb3; (first | (with_reducible (have hT := Blk.ex (Blk.drew (Blk.new w2 29 [.slice none 0 0, .int .i64 0])) hb3); obtain ⟨hT0, hT1⟩ := hT.c2; have hTf := hT.frozen; have hTl := hT.lt) | skip))
   | (go_at_call 107; (with_reducible refine (C3.out _ _ _ ?_ HLC.out.1 HLC.out.2).mono ?_); (first | (with_reducible exact HFC.out.rd.ex hE1) | (with_reducible exact HFC.out.rd.ex (hE1.alloc _))); rintro r w4 ⟨A4, c4, rfl, hf4, hb4⟩; (first | (with_reducible (have hE2 : Ex w2 w4 := Ex.trans hE1 hb4)) | (with_reducible (have hE2 : Ex w2 w4 := Ex.trans (hE1.alloc _) hb4))); (first | (with_reducible (have hT := Blk.ex hT hb4); obtain ⟨hT0, hT1⟩ := hT.c2; have hTf := hT.frozen; have hTl := hT.lt) | (with_reducible (have hT := Blk.ex (Blk.new w3 29 [.slice none 0 0, .int .i64 0]) hb4); obtain ⟨hT0, hT1⟩ := hT.c2; have hTf := hT.frozen; have hTl := hT.lt) | skip)))
  all_goals (go_wp2_with fail; go_meet)
  all_goals
   rename_i hHeld
   clear hHeld
   have z1 := hE1.size
   have z2 := hb4.size
   have z3 := hb3.size
   first
   | (refine ⟨w4.heap.size, A4, c4, ?hp, rfl, Blk.new _ _ _, (Fr.mono hf4 hE1.size).alloc _, hE2.size, fun b hb => by have := hf4.row b hb; omega, hE2.alloc _⟩
      case hp => with_reducible rfl)
   | (refine ⟨w3.heap.size, A4, c4, ?hp, rfl, Blk.put2 hT, ?hf, hE1.size, ?hr, (hE2.put hE1.size _).put hE1.size _⟩
      case hp => with_reducible rfl
      case hr => intro b hb; have := (hf4.row b hb).1; simp at this; omega
      case hf => exact Fr.mono (((Fr.put hf4 (fun b hb => by have := (hf4.row b hb).1; simp at this; omega) _)).put (fun b hb => by have := (hf4.row b hb).1; simp at this; omega) _) (by simp; omega))
   | (refine ⟨w2.heap.size, A4, c4, ?hp, rfl, Blk.put2 hT, ?hf, Nat.le_refl _, ?hr, (hE2.put (Nat.le_refl _) _).put (Nat.le_refl _) _⟩
      case hp => with_reducible rfl
      case hr => intro b hb; have := (hf4.row b hb).1; simp at z3; omega
      case hf => exact Fr.mono (((Fr.put hf4 (fun b hb => by have := (hf4.row b hb).1; simp at z3; omega) _)).put (fun b hb => by have := (hf4.row b hb).1; simp at z3; omega) _) hE1.size)
 case rest =>
  obtain ⟨gT, A5, c5, rfl, rfl, hkt, hft, hgt, hrt, hex⟩ := hcut
  have Y5 := zq (Chg.of_ex hex)
  have HFT := zq hft
  have KT := zq hkt
  have HRT := zq hrt
  clear hkt hft hrt hex
  have s5 := Y5.out.size
  have Ewc : Hid (Ex w wc) := zq (Ew2.out.chg Y5.out (by omega))
  replace KX := zq (KX.out.chg Y5.out (by omega))
  replace KR := zq (KR.out.chg Y5.out (by omega))
  replace KO := zq (KO.out.chg Y5.out (by omega))
  replace HFA := zq (HFA.out.chg Y5.out WHFA.out (by omega))
  replace HFB := zq (HFB.out.chg Y5.out WHFB.out (by omega))
  replace HFC := zq (HFC.out.chg Y5.out WHFC.out (by omega))
  replace HFD := zq (HFD.out.chg Y5.out WHFD.out (by omega))
  obtain ⟨qR0, qR1, qR2, qR3, qR4, qR5, qR6, qR7, qR8⟩ := KR.out.c9
  have jR := KR.out.lt
  have zR := KR.out.frozen
  obtain ⟨qO0, qO1, qO2, qO3, qO4, qO5, qO6, qO7, qO8⟩ := KO.out.c9
  have jO := KO.out.lt
  obtain ⟨qT0, qT1⟩ := KT.out.c2
  have jT := KT.out.lt
  have zR := KR.out.frozen
  have zO := KO.out.frozen
  have WHFT := zq HFT.out.row
  have hne1 : ¬ gO = w.heap.size + 1 := by omega
  have hne2 : ¬ w.heap.size + 1 = gO := by omega
  have hne3 : ¬ gO = gT := by omega
  have hne4 : ¬ gT = gO := by omega
  have hne5 : ¬ gT = w.heap.size + 1 := by omega
  have hne6 : ¬ w.heap.size + 1 = gT := by omega
  cases ok
  ·have HZ2 : Hid (z = (noMach, false)) := zq (HZ.out.symm.trans (if_neg (by simp)))
   clear HZ
   go_wp2
   refine bodyPost_ret (v := .tuple #[.agg #[.slice none 0 0, .slice none 0 0, .slice none 0 0, .int .i64 0, .int .i64 0, .int .i64 0, .int .i64 0, .slice none 0 0, .int .i64 0], .bool false]) (by simp [results, Tryz.results93, go_sem, *]) rfl ?_
   rw [HZ2.out]
   exact ⟨⟨none, 0, none, 0, none, 0, none, 0⟩, rfl, ⟨Fr.none_ _ _ _ _, Fr.none_ _ _ _ _, Fr.none_ _ _ _ _, Fr.none_ _ _ _ _⟩, (ze Ewc.out)⟩
  ·have HZ2 : Hid (z = (⟨n.table, nc, n.tags, n.space⟩, true)) := zq (HZ.out.symm.trans (if_pos rfl))
   clear HZ
   go_wp2
   refine bodyPost_ret (v := .tuple #[.agg #[.slice (⟨a1.b, a1.bc, a1.f, a1.fc, A5, c5, a1.o, a1.oc⟩ : MA).b (⟨n.table, nc, n.tags, n.space⟩ : MachD).table.buckets.length (⟨a1.b, a1.bc, a1.f, a1.fc, A5, c5, a1.o, a1.oc⟩ : MA).bc, .slice (⟨a1.b, a1.bc, a1.f, a1.fc, A5, c5, a1.o, a1.oc⟩ : MA).f (⟨n.table, nc, n.tags, n.space⟩ : MachD).table.frames.length (⟨a1.b, a1.bc, a1.f, a1.fc, A5, c5, a1.o, a1.oc⟩ : MA).fc, .slice (⟨a1.b, a1.bc, a1.f, a1.fc, A5, c5, a1.o, a1.oc⟩ : MA).l (⟨n.table, nc, n.tags, n.space⟩ : MachD).cache.lines.length (⟨a1.b, a1.bc, a1.f, a1.fc, A5, c5, a1.o, a1.oc⟩ : MA).lc, .int .i64 (⟨n.table, nc, n.tags, n.space⟩ : MachD).cache.hand, .int .i64 (⟨n.table, nc, n.tags, n.space⟩ : MachD).tags.count, .int .i64 (⟨n.table, nc, n.tags, n.space⟩ : MachD).tags.next, .int .i64 (⟨n.table, nc, n.tags, n.space⟩ : MachD).tags.round, .slice (⟨a1.b, a1.bc, a1.f, a1.fc, A5, c5, a1.o, a1.oc⟩ : MA).o (⟨n.table, nc, n.tags, n.space⟩ : MachD).tags.owns.length (⟨a1.b, a1.bc, a1.f, a1.fc, A5, c5, a1.o, a1.oc⟩ : MA).oc, .int .i64 (⟨n.table, nc, n.tags, n.space⟩ : MachD).space], .bool true]) (by simp [results, Tryz.results93, go_sem, *]) rfl ?_
   rw [HZ2.out]
   exact ⟨⟨a1.b, a1.bc, a1.f, a1.fc, A5, c5, a1.o, a1.oc⟩, rfl, ⟨(Fr.mono (zp HFA.out WHFA.out) (by omega)), (Fr.mono (zp HFB.out WHFB.out) (by omega)), (Fr.mono (zp HFT.out WHFT.out) (by omega)), (Fr.mono (zp HFD.out WHFD.out) (by omega))⟩, (ze Ewc.out)⟩

set_option maxHeartbeats 4000000 in
theorem putS_c (m : MachD) (a : MA) (k : KeyD) (i : Nat) (rt : Int) (w : World) (h : MachOk m) (hx : HasM w m a) (hc : CapM m a) (hkx : CapX a) (hk : keyOk k) (hs : keyFor k.space k.page = k) (hr : 0 ≤ rt ∧ rt < 8) (hi : i < m.table.frames.length) :
  Calls Tryz.prog 90 #[.agg #[.slice a.b m.table.buckets.length a.bc, .slice a.f m.table.frames.length a.fc, .slice a.l m.cache.lines.length a.lc, .int .i64 m.cache.hand, .int .i64 m.tags.count, .int .i64 m.tags.next, .int .i64 m.tags.round, .slice a.o m.tags.owns.length a.oc, .int .i64 m.space], .agg #[.int .i64 k.space, .int .i64 k.page], .int .i64 i, .int .i64 rt] w (MachOr (putM m k i rt) w) := by
 have hf := h.fewM
 have C1 := zq (fun w' (e : Ex w w') => machS_c m a w' (hx.ex e) hf hc)
 rw [machV_yes h] at C1
 have C2 := zq (fun w' => sharedS_c k w' hk hs)
 have C3 := zq (fun w' (e : Ex w w') => mapPageS_c m.table a.b a.bc a.f a.fc k i rt w' (hx.b.ex e) (hx.f.ex e) hc.b hc.f hkx.b hkx.f h.1.1 hk hr hi)
 have C4 := zq (fun w' (e : Ex w w') => l6Copy_c m a w' (hx.ex e) hf hc hkx)
 unfold putM
 unfold mapT at C3
 clear hf hx hc hkx h hk hs hr
 cases hp : putsT m.table k i
 ·rw [hp] at C3
  simp only [Bool.false_eq_true, if_false] at C3 ⊢
  clear hp
  go_enter Tryz.func90, Tryz.ntmps90
  go_wp2_with fail
  refine name_calls ?_; intro v1 hv1
  have X1 : Hid (Chg (0) (0) w v1) := zx hv1
  have t1 := X1.out.size
  have Ev1 := zq ((Ex.refl w).chg X1.out (by omega))
  have KX : Hid (Blk v1 (w.heap.size) 34 [.slice a.b m.table.buckets.length a.bc, .slice a.f m.table.frames.length a.fc, .slice a.l m.cache.lines.length a.lc, .int .i64 m.cache.hand, .int .i64 m.tags.count, .int .i64 m.tags.next, .int .i64 m.tags.round, .slice a.o m.tags.owns.length a.oc, .int .i64 m.space]) := zk hv1
  have lX : w.heap.size < v1.heap.size := KX.out.lt
  have KK : Hid (Blk v1 (w.heap.size + 1) 43 [.int .i64 k.space, .int .i64 k.page]) := zk hv1
  have lK : w.heap.size + 1 < v1.heap.size := KK.out.lt
  have KR : Hid (Blk v1 (w.heap.size + 1 + 1) 34 [.slice none 0 0, .slice none 0 0, .slice none 0 0, .int .i64 0, .int .i64 0, .int .i64 0, .int .i64 0, .slice none 0 0, .int .i64 0]) := zk hv1
  have lR : w.heap.size + 1 + 1 < v1.heap.size := KR.out.lt
  clear hv1
  refine (C1.out _ Ev1.out).mono ?_; rintro r w1 ⟨rfl, hb1⟩
  have Y1 := zq (Chg.of_ex hb1)
  have s1 := Y1.out.size
  have Ew1 := zq (Ev1.out.chg Y1.out (by omega))
  clear hb1
  replace KX := zq (KX.out.chg Y1.out (by omega))
  replace KK := zq (KK.out.chg Y1.out (by omega))
  replace KR := zq (KR.out.chg Y1.out (by omega))
  obtain ⟨qX0, qX1, qX2, qX3, qX4, qX5, qX6, qX7, qX8⟩ := KX.out.c9
  have jX := KX.out.lt
  obtain ⟨qK0, qK1⟩ := KK.out.c2
  have jK := KK.out.lt
  obtain ⟨qR0, qR1, qR2, qR3, qR4, qR5, qR6, qR7, qR8⟩ := KR.out.c9
  have jR := KR.out.lt
  have zR := KR.out.frozen
  go_wp2_with fail
  refine name_calls ?_; intro v2 hv2
  have X2 : Hid (Chg (0) (0) w1 v2) := zx hv2
  have t2 := X2.out.size
  have Ev2 := zq (Ew1.out.chg X2.out (by omega))
  clear qX0 qX1 qX2 qX3 qX4 qX5 qX6 qX7 qX8 jX
  clear qK0 qK1 jK
  clear qR0 qR1 qR2 qR3 qR4 qR5 qR6 qR7 qR8 jR zR
  replace KX := zq (KX.out.chg X2.out (by omega))
  replace KK := zq (KK.out.chg X2.out (by omega))
  replace KR := zq (KR.out.chg X2.out (by omega))
  clear hv2
  refine (C2.out _).mono ?_; rintro r w2 ⟨rfl, hb2⟩
  have Y2 := zq (Chg.of_ex hb2)
  have s2 := Y2.out.size
  have Ew2 := zq (Ev2.out.chg Y2.out (by omega))
  clear hb2
  replace KX := zq (KX.out.chg Y2.out (by omega))
  replace KK := zq (KK.out.chg Y2.out (by omega))
  replace KR := zq (KR.out.chg Y2.out (by omega))
  obtain ⟨qX0, qX1, qX2, qX3, qX4, qX5, qX6, qX7, qX8⟩ := KX.out.c9
  have jX := KX.out.lt
  obtain ⟨qK0, qK1⟩ := KK.out.c2
  have jK := KK.out.lt
  obtain ⟨qR0, qR1, qR2, qR3, qR4, qR5, qR6, qR7, qR8⟩ := KR.out.c9
  have jR := KR.out.lt
  have zR := KR.out.frozen
  go_wp2_with fail
  refine name_calls ?_; intro v3 hv3
  have X3 : Hid (Chg (0) (0) w2 v3) := zx hv3
  have t3 := X3.out.size
  have Ev3 := zq (Ew2.out.chg X3.out (by omega))
  clear qX0 qX1 qX2 qX3 qX4 qX5 qX6 qX7 qX8 jX
  clear qK0 qK1 jK
  clear qR0 qR1 qR2 qR3 qR4 qR5 qR6 qR7 qR8 jR zR
  replace KX := zq (KX.out.chg X3.out (by omega))
  replace KK := zq (KK.out.chg X3.out (by omega))
  replace KR := zq (KR.out.chg X3.out (by omega))
  clear hv3
  refine (C3.out _ Ev3.out).mono ?_; rintro r w3 ⟨A3, c3, B3, d3, rfl, hfa, hfb, hb3⟩
  have Y3 := zq (Chg.of_ex hb3)
  have s3 := Y3.out.size
  have Ew3 := zq (Ev3.out.chg Y3.out (by omega))
  clear hb3
  replace KX := zq (KX.out.chg Y3.out (by omega))
  replace KK := zq (KK.out.chg Y3.out (by omega))
  replace KR := zq (KR.out.chg Y3.out (by omega))
  have HFA := zq hfa; clear hfa
  have WHFA := zq HFA.out.row
  have HFB := zq hfb; clear hfb
  have WHFB := zq HFB.out.row
  obtain ⟨qX0, qX1, qX2, qX3, qX4, qX5, qX6, qX7, qX8⟩ := KX.out.c9
  have jX := KX.out.lt
  obtain ⟨qK0, qK1⟩ := KK.out.c2
  have jK := KK.out.lt
  obtain ⟨qR0, qR1, qR2, qR3, qR4, qR5, qR6, qR7, qR8⟩ := KR.out.c9
  have jR := KR.out.lt
  have zR := KR.out.frozen
  go_wp2
  exact bodyPost_ret (v := .tuple #[.agg #[.slice none 0 0, .slice none 0 0, .slice none 0 0, .int .i64 0, .int .i64 0, .int .i64 0, .int .i64 0, .slice none 0 0, .int .i64 0], .bool false]) (by simp [results, Tryz.results90, go_sem, *]) rfl
   ⟨⟨none, 0, none, 0, none, 0, none, 0⟩, rfl, ⟨Fr.none_ _ _ _ _, Fr.none_ _ _ _ _, Fr.none_ _ _ _ _, Fr.none_ _ _ _ _⟩, (ze Ew3.out)⟩
 ·rw [hp] at C3
  simp only [if_true] at C3 ⊢
  clear hp
  generalize linkT m.table k i rt = q at C3 ⊢
  go_enter Tryz.func90, Tryz.ntmps90
  go_wp2_with fail
  refine name_calls ?_; intro v1 hv1
  have X1 : Hid (Chg (0) (0) w v1) := zx hv1
  have t1 := X1.out.size
  have Ev1 := zq ((Ex.refl w).chg X1.out (by omega))
  have KX : Hid (Blk v1 (w.heap.size) 34 [.slice a.b m.table.buckets.length a.bc, .slice a.f m.table.frames.length a.fc, .slice a.l m.cache.lines.length a.lc, .int .i64 m.cache.hand, .int .i64 m.tags.count, .int .i64 m.tags.next, .int .i64 m.tags.round, .slice a.o m.tags.owns.length a.oc, .int .i64 m.space]) := zk hv1
  have lX : w.heap.size < v1.heap.size := KX.out.lt
  have KK : Hid (Blk v1 (w.heap.size + 1) 43 [.int .i64 k.space, .int .i64 k.page]) := zk hv1
  have lK : w.heap.size + 1 < v1.heap.size := KK.out.lt
  have KR : Hid (Blk v1 (w.heap.size + 1 + 1) 34 [.slice none 0 0, .slice none 0 0, .slice none 0 0, .int .i64 0, .int .i64 0, .int .i64 0, .int .i64 0, .slice none 0 0, .int .i64 0]) := zk hv1
  have lR : w.heap.size + 1 + 1 < v1.heap.size := KR.out.lt
  clear hv1
  refine (C1.out _ Ev1.out).mono ?_; rintro r w1 ⟨rfl, hb1⟩
  have Y1 := zq (Chg.of_ex hb1)
  have s1 := Y1.out.size
  have Ew1 := zq (Ev1.out.chg Y1.out (by omega))
  clear hb1
  replace KX := zq (KX.out.chg Y1.out (by omega))
  replace KK := zq (KK.out.chg Y1.out (by omega))
  replace KR := zq (KR.out.chg Y1.out (by omega))
  obtain ⟨qX0, qX1, qX2, qX3, qX4, qX5, qX6, qX7, qX8⟩ := KX.out.c9
  have jX := KX.out.lt
  obtain ⟨qK0, qK1⟩ := KK.out.c2
  have jK := KK.out.lt
  obtain ⟨qR0, qR1, qR2, qR3, qR4, qR5, qR6, qR7, qR8⟩ := KR.out.c9
  have jR := KR.out.lt
  have zR := KR.out.frozen
  go_wp2_with fail
  refine name_calls ?_; intro v2 hv2
  have X2 : Hid (Chg (0) (0) w1 v2) := zx hv2
  have t2 := X2.out.size
  have Ev2 := zq (Ew1.out.chg X2.out (by omega))
  clear qX0 qX1 qX2 qX3 qX4 qX5 qX6 qX7 qX8 jX
  clear qK0 qK1 jK
  clear qR0 qR1 qR2 qR3 qR4 qR5 qR6 qR7 qR8 jR zR
  replace KX := zq (KX.out.chg X2.out (by omega))
  replace KK := zq (KK.out.chg X2.out (by omega))
  replace KR := zq (KR.out.chg X2.out (by omega))
  clear hv2
  refine (C2.out _).mono ?_; rintro r w2 ⟨rfl, hb2⟩
  have Y2 := zq (Chg.of_ex hb2)
  have s2 := Y2.out.size
  have Ew2 := zq (Ev2.out.chg Y2.out (by omega))
  clear hb2
  replace KX := zq (KX.out.chg Y2.out (by omega))
  replace KK := zq (KK.out.chg Y2.out (by omega))
  replace KR := zq (KR.out.chg Y2.out (by omega))
  obtain ⟨qX0, qX1, qX2, qX3, qX4, qX5, qX6, qX7, qX8⟩ := KX.out.c9
  have jX := KX.out.lt
  obtain ⟨qK0, qK1⟩ := KK.out.c2
  have jK := KK.out.lt
  obtain ⟨qR0, qR1, qR2, qR3, qR4, qR5, qR6, qR7, qR8⟩ := KR.out.c9
  have jR := KR.out.lt
  have zR := KR.out.frozen
  go_wp2_with fail
  refine name_calls ?_; intro v3 hv3
  have X3 : Hid (Chg (0) (0) w2 v3) := zx hv3
  have t3 := X3.out.size
  have Ev3 := zq (Ew2.out.chg X3.out (by omega))
  clear qX0 qX1 qX2 qX3 qX4 qX5 qX6 qX7 qX8 jX
  clear qK0 qK1 jK
  clear qR0 qR1 qR2 qR3 qR4 qR5 qR6 qR7 qR8 jR zR
  replace KX := zq (KX.out.chg X3.out (by omega))
  replace KK := zq (KK.out.chg X3.out (by omega))
  replace KR := zq (KR.out.chg X3.out (by omega))
  clear hv3
  refine (C3.out _ Ev3.out).mono ?_; rintro r w3 ⟨A3, c3, B3, d3, rfl, hfa, hfb, hb3⟩
  have Y3 := zq (Chg.of_ex hb3)
  have s3 := Y3.out.size
  have Ew3 := zq (Ev3.out.chg Y3.out (by omega))
  clear hb3
  replace KX := zq (KX.out.chg Y3.out (by omega))
  replace KK := zq (KK.out.chg Y3.out (by omega))
  replace KR := zq (KR.out.chg Y3.out (by omega))
  have HFA := zq hfa; clear hfa
  have WHFA := zq HFA.out.row
  have HFB := zq hfb; clear hfb
  have WHFB := zq HFB.out.row
  obtain ⟨qX0, qX1, qX2, qX3, qX4, qX5, qX6, qX7, qX8⟩ := KX.out.c9
  have jX := KX.out.lt
  obtain ⟨qK0, qK1⟩ := KK.out.c2
  have jK := KK.out.lt
  obtain ⟨qR0, qR1, qR2, qR3, qR4, qR5, qR6, qR7, qR8⟩ := KR.out.c9
  have jR := KR.out.lt
  have zR := KR.out.frozen
  go_wp2_with fail
  refine name_calls ?_; intro v4 hv4
  have X4 : Hid (Chg (0) (0) w3 v4) := zx hv4
  have t4 := X4.out.size
  have Ev4 := zq (Ew3.out.chg X4.out (by omega))
  clear qX0 qX1 qX2 qX3 qX4 qX5 qX6 qX7 qX8 jX
  clear qK0 qK1 jK
  clear qR0 qR1 qR2 qR3 qR4 qR5 qR6 qR7 qR8 jR zR
  replace KX := zq (KX.out.chg X4.out (by omega))
  replace KK := zq (KK.out.chg X4.out (by omega))
  replace KR := zq (KR.out.chg X4.out (by omega))
  replace HFA := zq (HFA.out.chg X4.out WHFA.out (by omega))
  replace HFB := zq (HFB.out.chg X4.out WHFB.out (by omega))
  have KT : Hid (Blk v4 (w3.heap.size) 26 [.slice A3 q.buckets.length c3, .slice B3 q.frames.length d3]) := zk hv4
  have lT : w3.heap.size < v4.heap.size := KT.out.lt
  clear hv4
  refine (C4.out _ Ev4.out).mono ?_; rintro r w4 ⟨a4, rfl, ⟨hfc, hfd, hfe, hff⟩, hb4⟩
  have Y4 := zq (Chg.of_ex hb4)
  have s4 := Y4.out.size
  have Ew4 := zq (Ev4.out.chg Y4.out (by omega))
  clear hb4
  replace KX := zq (KX.out.chg Y4.out (by omega))
  replace KK := zq (KK.out.chg Y4.out (by omega))
  replace KR := zq (KR.out.chg Y4.out (by omega))
  replace KT := zq (KT.out.chg Y4.out (by omega))
  replace HFA := zq (HFA.out.chg Y4.out WHFA.out (by omega))
  replace HFB := zq (HFB.out.chg Y4.out WHFB.out (by omega))
  have HFC := zq hfc; clear hfc
  have WHFC := zq HFC.out.row
  have HFD := zq hfd; clear hfd
  have WHFD := zq HFD.out.row
  have HFE := zq hfe; clear hfe
  have WHFE := zq HFE.out.row
  have HFF := zq hff; clear hff
  have WHFF := zq HFF.out.row
  obtain ⟨qX0, qX1, qX2, qX3, qX4, qX5, qX6, qX7, qX8⟩ := KX.out.c9
  have jX := KX.out.lt
  obtain ⟨qK0, qK1⟩ := KK.out.c2
  have jK := KK.out.lt
  obtain ⟨qR0, qR1, qR2, qR3, qR4, qR5, qR6, qR7, qR8⟩ := KR.out.c9
  have jR := KR.out.lt
  have zR := KR.out.frozen
  obtain ⟨qT0, qT1⟩ := KT.out.c2
  have jT := KT.out.lt
  have hne1 : ¬ w4.heap.size = w.heap.size + 1 + 1 := by omega
  have hne2 : ¬ w.heap.size + 1 + 1 = w4.heap.size := by omega
  have hne3 : ¬ w4.heap.size = w3.heap.size := by omega
  have hne4 : ¬ w3.heap.size = w4.heap.size := by omega
  go_wp2
  exact bodyPost_ret (v := .tuple #[.agg #[.slice (⟨A3, c3, B3, d3, a4.l, a4.lc, a4.o, a4.oc⟩ : MA).b (⟨q, m.cache, m.tags, m.space⟩ : MachD).table.buckets.length (⟨A3, c3, B3, d3, a4.l, a4.lc, a4.o, a4.oc⟩ : MA).bc, .slice (⟨A3, c3, B3, d3, a4.l, a4.lc, a4.o, a4.oc⟩ : MA).f (⟨q, m.cache, m.tags, m.space⟩ : MachD).table.frames.length (⟨A3, c3, B3, d3, a4.l, a4.lc, a4.o, a4.oc⟩ : MA).fc, .slice (⟨A3, c3, B3, d3, a4.l, a4.lc, a4.o, a4.oc⟩ : MA).l (⟨q, m.cache, m.tags, m.space⟩ : MachD).cache.lines.length (⟨A3, c3, B3, d3, a4.l, a4.lc, a4.o, a4.oc⟩ : MA).lc, .int .i64 (⟨q, m.cache, m.tags, m.space⟩ : MachD).cache.hand, .int .i64 (⟨q, m.cache, m.tags, m.space⟩ : MachD).tags.count, .int .i64 (⟨q, m.cache, m.tags, m.space⟩ : MachD).tags.next, .int .i64 (⟨q, m.cache, m.tags, m.space⟩ : MachD).tags.round, .slice (⟨A3, c3, B3, d3, a4.l, a4.lc, a4.o, a4.oc⟩ : MA).o (⟨q, m.cache, m.tags, m.space⟩ : MachD).tags.owns.length (⟨A3, c3, B3, d3, a4.l, a4.lc, a4.o, a4.oc⟩ : MA).oc, .int .i64 (⟨q, m.cache, m.tags, m.space⟩ : MachD).space], .bool true]) (by simp [results, Tryz.results90, go_sem, *]) rfl
   ⟨⟨A3, c3, B3, d3, a4.l, a4.lc, a4.o, a4.oc⟩, rfl, ⟨(Fr.mono (zp HFA.out WHFA.out) (by omega)), (Fr.mono (zp HFB.out WHFB.out) (by omega)), (Fr.mono (zp HFE.out WHFE.out) (by omega)), (Fr.mono (zp HFF.out WHFF.out) (by omega))⟩, (ze Ew4.out)⟩

set_option maxHeartbeats 4000000 in
theorem takeS_c (m : MachD) (a : MA) (k : KeyD) (w : World) (h : MachOk m) (hx : HasM w m a) (hc : CapM m a) (hkx : CapX a) (hk : keyOk k) :
  Calls Tryz.prog 94 #[.agg #[.slice a.b m.table.buckets.length a.bc, .slice a.f m.table.frames.length a.fc, .slice a.l m.cache.lines.length a.lc, .int .i64 m.cache.hand, .int .i64 m.tags.count, .int .i64 m.tags.next, .int .i64 m.tags.round, .slice a.o m.tags.owns.length a.oc, .int .i64 m.space], .agg #[.int .i64 k.space, .int .i64 k.page]] w (MachOr (takeM m k) w) := by
 have hf := h.fewM
 have C1 := zq (fun w' (e : Ex w w') => machS_c m a w' (hx.ex e) hf hc)
 rw [machV_yes h] at C1
 have C2 := zq (fun w' (e : Ex w w') => unmapS_c m.table a.b a.bc a.f a.fc k w' (hx.b.ex e) (hx.f.ex e) hc.b hc.f hkx.b hkx.f h.1.1 hk)
 have C3 := zq (fun w' (e : Ex w w') => forgetS_c m a k w' h (hx.ex e) hc hkx)
 unfold takeM
 unfold unmapT at C2
 clear hf hx hc hkx h hk
 by_cases hq : findF m.table k < 0
 ·rw [if_pos hq] at C2 ⊢
  clear hq
  go_enter Tryz.func94, Tryz.ntmps94
  go_wp2_with fail
  refine name_calls ?_; intro v1 hv1
  have X1 : Hid (Chg (0) (0) w v1) := zx hv1
  have t1 := X1.out.size
  have Ev1 := zq ((Ex.refl w).chg X1.out (by omega))
  have KX : Hid (Blk v1 (w.heap.size) 34 [.slice a.b m.table.buckets.length a.bc, .slice a.f m.table.frames.length a.fc, .slice a.l m.cache.lines.length a.lc, .int .i64 m.cache.hand, .int .i64 m.tags.count, .int .i64 m.tags.next, .int .i64 m.tags.round, .slice a.o m.tags.owns.length a.oc, .int .i64 m.space]) := zk hv1
  have lX : w.heap.size < v1.heap.size := KX.out.lt
  have KK : Hid (Blk v1 (w.heap.size + 1) 43 [.int .i64 k.space, .int .i64 k.page]) := zk hv1
  have lK : w.heap.size + 1 < v1.heap.size := KK.out.lt
  have KR : Hid (Blk v1 (w.heap.size + 1 + 1) 34 [.slice none 0 0, .slice none 0 0, .slice none 0 0, .int .i64 0, .int .i64 0, .int .i64 0, .int .i64 0, .slice none 0 0, .int .i64 0]) := zk hv1
  have lR : w.heap.size + 1 + 1 < v1.heap.size := KR.out.lt
  clear hv1
  refine (C1.out _ Ev1.out).mono ?_; rintro r w1 ⟨rfl, hb1⟩
  have Y1 := zq (Chg.of_ex hb1)
  have s1 := Y1.out.size
  have Ew1 := zq (Ev1.out.chg Y1.out (by omega))
  clear hb1
  replace KX := zq (KX.out.chg Y1.out (by omega))
  replace KK := zq (KK.out.chg Y1.out (by omega))
  replace KR := zq (KR.out.chg Y1.out (by omega))
  obtain ⟨qX0, qX1, qX2, qX3, qX4, qX5, qX6, qX7, qX8⟩ := KX.out.c9
  have jX := KX.out.lt
  obtain ⟨qK0, qK1⟩ := KK.out.c2
  have jK := KK.out.lt
  obtain ⟨qR0, qR1, qR2, qR3, qR4, qR5, qR6, qR7, qR8⟩ := KR.out.c9
  have jR := KR.out.lt
  have zR := KR.out.frozen
  go_wp2_with fail
  refine name_calls ?_; intro v2 hv2
  have X2 : Hid (Chg (0) (0) w1 v2) := zx hv2
  have t2 := X2.out.size
  have Ev2 := zq (Ew1.out.chg X2.out (by omega))
  clear qX0 qX1 qX2 qX3 qX4 qX5 qX6 qX7 qX8 jX
  clear qK0 qK1 jK
  clear qR0 qR1 qR2 qR3 qR4 qR5 qR6 qR7 qR8 jR zR
  replace KX := zq (KX.out.chg X2.out (by omega))
  replace KK := zq (KK.out.chg X2.out (by omega))
  replace KR := zq (KR.out.chg X2.out (by omega))
  clear hv2
  refine (C2.out _ Ev2.out).mono ?_; rintro r w2 ⟨A2, c2, B2, d2, rfl, hfa, hfb, hb2⟩
  have Y2 := zq (Chg.of_ex hb2)
  have s2 := Y2.out.size
  have Ew2 := zq (Ev2.out.chg Y2.out (by omega))
  clear hb2
  replace KX := zq (KX.out.chg Y2.out (by omega))
  replace KK := zq (KK.out.chg Y2.out (by omega))
  replace KR := zq (KR.out.chg Y2.out (by omega))
  have HFA := zq hfa; clear hfa
  have WHFA := zq HFA.out.row
  have HFB := zq hfb; clear hfb
  have WHFB := zq HFB.out.row
  obtain ⟨qX0, qX1, qX2, qX3, qX4, qX5, qX6, qX7, qX8⟩ := KX.out.c9
  have jX := KX.out.lt
  obtain ⟨qK0, qK1⟩ := KK.out.c2
  have jK := KK.out.lt
  obtain ⟨qR0, qR1, qR2, qR3, qR4, qR5, qR6, qR7, qR8⟩ := KR.out.c9
  have jR := KR.out.lt
  have zR := KR.out.frozen
  go_wp2
  exact bodyPost_ret (v := .tuple #[.agg #[.slice none 0 0, .slice none 0 0, .slice none 0 0, .int .i64 0, .int .i64 0, .int .i64 0, .int .i64 0, .slice none 0 0, .int .i64 0], .bool false]) (by simp [results, Tryz.results94, go_sem, *]) rfl
   ⟨⟨none, 0, none, 0, none, 0, none, 0⟩, rfl, ⟨Fr.none_ _ _ _ _, Fr.none_ _ _ _ _, Fr.none_ _ _ _ _, Fr.none_ _ _ _ _⟩, (ze Ew2.out)⟩
 ·rw [if_neg hq] at C2 ⊢
  clear hq
  generalize unlinkT m.table (findF m.table k).toNat = q at C2 ⊢
  generalize forgetC m k = fc at C3 ⊢
  go_enter Tryz.func94, Tryz.ntmps94
  go_wp2_with fail
  refine name_calls ?_; intro v1 hv1
  have X1 : Hid (Chg (0) (0) w v1) := zx hv1
  have t1 := X1.out.size
  have Ev1 := zq ((Ex.refl w).chg X1.out (by omega))
  have KX : Hid (Blk v1 (w.heap.size) 34 [.slice a.b m.table.buckets.length a.bc, .slice a.f m.table.frames.length a.fc, .slice a.l m.cache.lines.length a.lc, .int .i64 m.cache.hand, .int .i64 m.tags.count, .int .i64 m.tags.next, .int .i64 m.tags.round, .slice a.o m.tags.owns.length a.oc, .int .i64 m.space]) := zk hv1
  have lX : w.heap.size < v1.heap.size := KX.out.lt
  have KK : Hid (Blk v1 (w.heap.size + 1) 43 [.int .i64 k.space, .int .i64 k.page]) := zk hv1
  have lK : w.heap.size + 1 < v1.heap.size := KK.out.lt
  have KR : Hid (Blk v1 (w.heap.size + 1 + 1) 34 [.slice none 0 0, .slice none 0 0, .slice none 0 0, .int .i64 0, .int .i64 0, .int .i64 0, .int .i64 0, .slice none 0 0, .int .i64 0]) := zk hv1
  have lR : w.heap.size + 1 + 1 < v1.heap.size := KR.out.lt
  clear hv1
  refine (C1.out _ Ev1.out).mono ?_; rintro r w1 ⟨rfl, hb1⟩
  have Y1 := zq (Chg.of_ex hb1)
  have s1 := Y1.out.size
  have Ew1 := zq (Ev1.out.chg Y1.out (by omega))
  clear hb1
  replace KX := zq (KX.out.chg Y1.out (by omega))
  replace KK := zq (KK.out.chg Y1.out (by omega))
  replace KR := zq (KR.out.chg Y1.out (by omega))
  obtain ⟨qX0, qX1, qX2, qX3, qX4, qX5, qX6, qX7, qX8⟩ := KX.out.c9
  have jX := KX.out.lt
  obtain ⟨qK0, qK1⟩ := KK.out.c2
  have jK := KK.out.lt
  obtain ⟨qR0, qR1, qR2, qR3, qR4, qR5, qR6, qR7, qR8⟩ := KR.out.c9
  have jR := KR.out.lt
  have zR := KR.out.frozen
  go_wp2_with fail
  refine name_calls ?_; intro v2 hv2
  have X2 : Hid (Chg (0) (0) w1 v2) := zx hv2
  have t2 := X2.out.size
  have Ev2 := zq (Ew1.out.chg X2.out (by omega))
  clear qX0 qX1 qX2 qX3 qX4 qX5 qX6 qX7 qX8 jX
  clear qK0 qK1 jK
  clear qR0 qR1 qR2 qR3 qR4 qR5 qR6 qR7 qR8 jR zR
  replace KX := zq (KX.out.chg X2.out (by omega))
  replace KK := zq (KK.out.chg X2.out (by omega))
  replace KR := zq (KR.out.chg X2.out (by omega))
  clear hv2
  refine (C2.out _ Ev2.out).mono ?_; rintro r w2 ⟨A2, c2, B2, d2, rfl, hfa, hfb, hb2⟩
  have Y2 := zq (Chg.of_ex hb2)
  have s2 := Y2.out.size
  have Ew2 := zq (Ev2.out.chg Y2.out (by omega))
  clear hb2
  replace KX := zq (KX.out.chg Y2.out (by omega))
  replace KK := zq (KK.out.chg Y2.out (by omega))
  replace KR := zq (KR.out.chg Y2.out (by omega))
  have HFA := zq hfa; clear hfa
  have WHFA := zq HFA.out.row
  have HFB := zq hfb; clear hfb
  have WHFB := zq HFB.out.row
  obtain ⟨qX0, qX1, qX2, qX3, qX4, qX5, qX6, qX7, qX8⟩ := KX.out.c9
  have jX := KX.out.lt
  obtain ⟨qK0, qK1⟩ := KK.out.c2
  have jK := KK.out.lt
  obtain ⟨qR0, qR1, qR2, qR3, qR4, qR5, qR6, qR7, qR8⟩ := KR.out.c9
  have jR := KR.out.lt
  have zR := KR.out.frozen
  go_wp2_with fail
  refine name_calls ?_; intro v3 hv3
  have X3 : Hid (Chg (0) (0) w2 v3) := zx hv3
  have t3 := X3.out.size
  have Ev3 := zq (Ew2.out.chg X3.out (by omega))
  clear qX0 qX1 qX2 qX3 qX4 qX5 qX6 qX7 qX8 jX
  clear qK0 qK1 jK
  clear qR0 qR1 qR2 qR3 qR4 qR5 qR6 qR7 qR8 jR zR
  replace KX := zq (KX.out.chg X3.out (by omega))
  replace KK := zq (KK.out.chg X3.out (by omega))
  replace KR := zq (KR.out.chg X3.out (by omega))
  replace HFA := zq (HFA.out.chg X3.out WHFA.out (by omega))
  replace HFB := zq (HFB.out.chg X3.out WHFB.out (by omega))
  have KT : Hid (Blk v3 (w2.heap.size) 26 [.slice A2 q.buckets.length c2, .slice B2 q.frames.length d2]) := zk hv3
  have lT : w2.heap.size < v3.heap.size := KT.out.lt
  clear hv3
  refine (C3.out _ Ev3.out).mono ?_; rintro r w3 ⟨a3, rfl, ⟨hfc, hfd, hfe, hff⟩, hb3⟩
  have Y3 := zq (Chg.of_ex hb3)
  have s3 := Y3.out.size
  have Ew3 := zq (Ev3.out.chg Y3.out (by omega))
  clear hb3
  replace KX := zq (KX.out.chg Y3.out (by omega))
  replace KK := zq (KK.out.chg Y3.out (by omega))
  replace KR := zq (KR.out.chg Y3.out (by omega))
  replace KT := zq (KT.out.chg Y3.out (by omega))
  replace HFA := zq (HFA.out.chg Y3.out WHFA.out (by omega))
  replace HFB := zq (HFB.out.chg Y3.out WHFB.out (by omega))
  have HFC := zq hfc; clear hfc
  have WHFC := zq HFC.out.row
  have HFD := zq hfd; clear hfd
  have WHFD := zq HFD.out.row
  have HFE := zq hfe; clear hfe
  have WHFE := zq HFE.out.row
  have HFF := zq hff; clear hff
  have WHFF := zq HFF.out.row
  obtain ⟨qX0, qX1, qX2, qX3, qX4, qX5, qX6, qX7, qX8⟩ := KX.out.c9
  have jX := KX.out.lt
  obtain ⟨qK0, qK1⟩ := KK.out.c2
  have jK := KK.out.lt
  obtain ⟨qR0, qR1, qR2, qR3, qR4, qR5, qR6, qR7, qR8⟩ := KR.out.c9
  have jR := KR.out.lt
  have zR := KR.out.frozen
  obtain ⟨qT0, qT1⟩ := KT.out.c2
  have jT := KT.out.lt
  have hne1 : ¬ w3.heap.size = w.heap.size + 1 + 1 := by omega
  have hne2 : ¬ w.heap.size + 1 + 1 = w3.heap.size := by omega
  have hne3 : ¬ w3.heap.size = w2.heap.size := by omega
  have hne4 : ¬ w2.heap.size = w3.heap.size := by omega
  go_wp2
  exact bodyPost_ret (v := .tuple #[.agg #[.slice (⟨A2, c2, B2, d2, a3.l, a3.lc, a3.o, a3.oc⟩ : MA).b (⟨q, fc, m.tags, m.space⟩ : MachD).table.buckets.length (⟨A2, c2, B2, d2, a3.l, a3.lc, a3.o, a3.oc⟩ : MA).bc, .slice (⟨A2, c2, B2, d2, a3.l, a3.lc, a3.o, a3.oc⟩ : MA).f (⟨q, fc, m.tags, m.space⟩ : MachD).table.frames.length (⟨A2, c2, B2, d2, a3.l, a3.lc, a3.o, a3.oc⟩ : MA).fc, .slice (⟨A2, c2, B2, d2, a3.l, a3.lc, a3.o, a3.oc⟩ : MA).l (⟨q, fc, m.tags, m.space⟩ : MachD).cache.lines.length (⟨A2, c2, B2, d2, a3.l, a3.lc, a3.o, a3.oc⟩ : MA).lc, .int .i64 (⟨q, fc, m.tags, m.space⟩ : MachD).cache.hand, .int .i64 (⟨q, fc, m.tags, m.space⟩ : MachD).tags.count, .int .i64 (⟨q, fc, m.tags, m.space⟩ : MachD).tags.next, .int .i64 (⟨q, fc, m.tags, m.space⟩ : MachD).tags.round, .slice (⟨A2, c2, B2, d2, a3.l, a3.lc, a3.o, a3.oc⟩ : MA).o (⟨q, fc, m.tags, m.space⟩ : MachD).tags.owns.length (⟨A2, c2, B2, d2, a3.l, a3.lc, a3.o, a3.oc⟩ : MA).oc, .int .i64 (⟨q, fc, m.tags, m.space⟩ : MachD).space], .bool true]) (by simp [results, Tryz.results94, go_sem, *]) rfl
   ⟨⟨A2, c2, B2, d2, a3.l, a3.lc, a3.o, a3.oc⟩, rfl, ⟨(Fr.mono (zp HFA.out WHFA.out) (by omega)), (Fr.mono (zp HFB.out WHFB.out) (by omega)), (Fr.mono (zp HFE.out WHFE.out) (by omega)), (Fr.mono (zp HFF.out WHFF.out) (by omega))⟩, (ze Ew3.out)⟩

theorem Rd.past {w w' : World} {g b : Nat} {xs : List Int} (h : Rd w (some ⟨b, 0, none⟩) xs) (k : w.grownBy w' (some g)) (hb : b ≠ g) : Rd w' (some ⟨b, 0, none⟩) xs :=
 h.grown k (fun b' e off e2 => by injection e with e; injection e2 with e2; injection e2 with e2; omega)
theorem Rd.lits_drew (w : World) (T : TypeId) (zs : List Int) : Rd ((w.alloc (.cells (zs.map (Value.int .i64)).toArray T)).drew) (some ⟨w.heap.size, 0, none⟩) zs := (Rd.lits w T zs).drew

/-- A small machine: whatever a drawn one may be. -/
structure FewB (m : MachD) (k : Nat) : Prop where
 b : m.table.buckets.length ≤ k
 f : m.table.frames.length ≤ k
 l : m.cache.lines.length ≤ 8
 o : m.tags.owns.length ≤ k
 z : 0 < m.table.frames.length → 0 < m.table.buckets.length
theorem FewB.few {m : MachD} {k : Nat} (h : FewB m k) (hk : k ≤ 1000) : FewM m := ⟨by have := h.b; omega, by have := h.f; omega, by have := h.l; omega, by have := h.o; omega⟩
theorem MachOk.fewB {m : MachD} (h : MachOk m) : FewB m 16 := by
 obtain ⟨h1, h2, h3, h4, h5, h6, h7⟩ := h.few
 exact ⟨h1, h2, h3, by omega, fun _ => h5⟩
/-- Some machine comes back, and the reader has gone on. -/
def SomeMach (g p lo k : Nat) (P : MachD → Prop) (w : World) (e : Ending) (w' : World) : Prop := ∃ (m : MachD) (a : MA) (p' : Nat), e = .returned (.agg #[.slice a.b m.table.buckets.length a.bc, .slice a.f m.table.frames.length a.fc, .slice a.l m.cache.lines.length a.lc, .int .i64 m.cache.hand, .int .i64 m.tags.count, .int .i64 m.tags.next, .int .i64 m.tags.round, .slice a.o m.tags.owns.length a.oc, .int .i64 m.space]) ∧ P m ∧ FrM w' lo m a ∧ Rdr w' g p' ∧ p' ≤ p + k ∧ w.grownBy w' (some g)
/-- A step of a machine: where it could be made, the machine is valid. -/
def StepOr (w : World) (e : Ending) (w' : World) : Prop := ∃ (n : MachD) (a : MA) (ok : Bool), e = .returned (.tuple #[.agg #[.slice a.b n.table.buckets.length a.bc, .slice a.f n.table.frames.length a.fc, .slice a.l n.cache.lines.length a.lc, .int .i64 n.cache.hand, .int .i64 n.tags.count, .int .i64 n.tags.next, .int .i64 n.tags.round, .slice a.o n.tags.owns.length a.oc, .int .i64 n.space], .bool ok]) ∧ (ok = true → MachOk n) ∧ FrM w' w.heap.size n a ∧ Ex w w'
def SomePage (g p : Nat) (w : World) (e : Ending) (w' : World) : Prop := ∃ v : Int, e = .returned (.int .i64 v) ∧ (0 ≤ v ∧ v < 256) ∧ Rdr w' g (p + 1) ∧ w.grownBy w' (some g)

set_option maxHeartbeats 1000000 in
theorem l6Page_c (g p : Nat) (w : World) (h : Rdr w g p) (hp : p ≤ 900000) : Calls Tryz.prog 91 #[.pointer (some ⟨g, 0, none⟩)] w (SomePage g p w) := by
 have lg := h.lt
 have HR0 := zq h
 clear h
 go_enter Tryz.func91, Tryz.ntmps91
 go_wp2_with fail
 refine name_calls ?_; intro v1 hv1
 have X1 : Hid (Chg (0) (0) w v1) := zx hv1
 have t1 := X1.out.size
 have Ev1 : Hid (Chg g (g + 1) w v1) := zq ((Chg.refl g (g + 1) w).step X1.out (by omega))
 replace HR0 := zq (HR0.out.chg X1.out (by omega))
 have L1 : Hid (Rd v1 (some ⟨w.heap.size, 0, none⟩) ([1, 2, 3, 4, 200, 201, 5] : List Int)) := zq (by rw [hv1]; repeat' (first | exact Rd.lits _ _ _ | exact Rd.lits_at _ _ _ (by simp) | with_reducible refine Rd.alloc ?_ _))
 clear hv1
 refine (num_c g p _ 0 _ [1, 2, 3, 4, 200, 201, 5] _ HR0.out L1.out (by simp) (by simp) (by omega) (by omega)).mono ?_; rintro r w1 ⟨n1, rfl, hhn1, hrd1, hb1⟩
 have Y1 : Hid (Chg (g) (g + 1) v1 w1) := zq (Chg.of_grown hb1 (fun b hb => by injection hb with hb; omega))
 have s1 := Y1.out.size
 have Ew1 : Hid (Chg g (g + 1) w w1) := zq (Ev1.out.step Y1.out (by omega))
 clear hb1
 clear HR0
 have HRD1 := zq hrd1; clear hrd1
 have HHN1 := zq hhn1; clear hhn1
 go_wp2
 go_ret
 exact ⟨n1, rfl, by have := HHN1.out; simp at this; omega, HRD1.out, Chg.grown Ew1.out⟩
end Go.Proofs.YtbdlpbladpppjaaGreatDoor
