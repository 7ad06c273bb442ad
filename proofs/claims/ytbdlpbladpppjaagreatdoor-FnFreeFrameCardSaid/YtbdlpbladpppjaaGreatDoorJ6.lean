/- Joined: Zh, Zc, Ze, Rd, Re, Lr, Zi. -/
import Derived.Deep.DeepCutAuto
import Derived.Test.YtbdlpbladpppjaaGreatDoorRows
import Derived.Laws.BitsAllLaws
import Derived.Laws.BitsLemmas
import Derived.Test.YtbdlpbladpppjaaGreatDoorJ5
import Derived.Test.YtbdlpbladpppjaaGreatDoorJ4
import Derived.Test.YtbdlpbladpppjaaGreatDoorJ1
namespace Go.Proofs.YtbdlpbladpppjaaGreatDoor
open Go.ChangeShapes Go.WideShapes Go.ChangeAt Go.RowKit
open Rec (sz cs)
set_option linter.unusedVariables false
set_option maxRecDepth 100000

set_option maxHeartbeats 8000000 in
theorem wirePS_c (m : MachD) (a : MA) (p : Int) (w : World) (h : MachOk m) (hx : HasM w m a) (hc : CapM m a) (hk : CapX a) (hp : 128 ≤ p ∧ p < 256) :
    Calls Tryz.prog 93 #[.agg #[.slice a.b m.table.buckets.length a.bc, .slice a.f m.table.frames.length a.fc, .slice a.l m.cache.lines.length a.lc, .int .i64 m.cache.hand, .int .i64 m.tags.count, .int .i64 m.tags.next, .int .i64 m.tags.round, .slice a.o m.tags.owns.length a.oc, .int .i64 m.space], .int .i64 p] w (MachOr (wireM m p) w) := by
  have C1 := zq (fun w' (e : Ex w w') => touchS_c m a p 0 w' h (hx.ex e) hc hk (by omega) (by omega))
  have h2 := (touchM_ok h (page := p) (by omega)).1
  have hf := h2.fewM
  have C2 := zq (fun A c w' hr => l4Find_c (touchM m p).cache (-1) p A c w' hr hf.l)
  have C3 := zq (fun A c w' hr hc1 hc2 => wireS_c (touchM m p).cache (placeOf (touchM m p).cache.lines (-1) p) true A c w' hr hf.l hc1 hc2)
  unfold wireM
  clear h hx hc hk h2 hf
  unfold Touched at C1
  generalize touchM m p = n at C1 C2 C3 ⊢
  generalize touchF m p = tf at C1
  generalize placeOf n.cache.lines (-1) p = pl at C2 C3 ⊢
  generalize wireLine n.cache pl true = q at C3 ⊢
  obtain ⟨nc, ok⟩ := q
  dsimp only at C3 ⊢
  have hp1 : ¬ p < 128 := by omega
  clear hp
  cases hm : missM m p
  rotate_left
  · simp only [if_true]
    have HM := zq hm
    clear hm
    go_enter Tryz.func93, Tryz.ntmps93
    go_wp2_with fail
    refine name_calls ?_; intro v1 hv1
    have X1 : Hid (Chg (0) (0) w v1) := zx hv1
    have t1 := X1.out.size
    have Ev1 := zq ((Ex.refl w).chg X1.out (by omega))
    have KX : Hid (Blk v1 (w.heap.size) 34 [.slice a.b m.table.buckets.length a.bc, .slice a.f m.table.frames.length a.fc, .slice a.l m.cache.lines.length a.lc, .int .i64 m.cache.hand, .int .i64 m.tags.count, .int .i64 m.tags.next, .int .i64 m.tags.round, .slice a.o m.tags.owns.length a.oc, .int .i64 m.space]) := zk hv1
    have lX : w.heap.size < v1.heap.size := KX.out.lt
    have KR : Hid (Blk v1 (w.heap.size + 1) 34 [.slice none 0 0, .slice none 0 0, .slice none 0 0, .int .i64 0, .int .i64 0, .int .i64 0, .int .i64 0, .slice none 0 0, .int .i64 0]) := zk hv1
    have lR : w.heap.size + 1 < v1.heap.size := KR.out.lt
    clear hv1
    refine (C1.out _ Ev1.out).mono ?_; rintro r w1 ⟨a1, oc, rfl, ⟨hfa, hfb, hfc, hfd⟩, hoc, hom, hb1⟩
    have Y1 := zq (Chg.of_ex hb1)
    have s1 := Y1.out.size
    have Ew1 := zq (Ev1.out.chg Y1.out (by omega))
    clear hb1
    replace KX := zq (KX.out.chg Y1.out (by omega))
    replace KR := zq (KR.out.chg Y1.out (by omega))
    have HFA := zq hfa; clear hfa
    have WHFA := zq HFA.out.row
    have HFB := zq hfb; clear hfb
    have WHFB := zq HFB.out.row
    have HFC := zq hfc; clear hfc
    have WHFC := zq HFC.out.row
    have HFD := zq hfd; clear hfd
    have WHFD := zq HFD.out.row
    obtain ⟨qX0, qX1, qX2, qX3, qX4, qX5, qX6, qX7, qX8⟩ := KX.out.c9
    have jX := KX.out.lt
    obtain ⟨qR0, qR1, qR2, qR3, qR4, qR5, qR6, qR7, qR8⟩ := KR.out.c9
    have jR := KR.out.lt
    have zR := KR.out.frozen
    obtain rfl : oc = 3 := hom.2 HM.out
    clear hom hoc
    go_wp2
    exact bodyPost_ret (v := .tuple #[.agg #[.slice none 0 0, .slice none 0 0, .slice none 0 0, .int .i64 0, .int .i64 0, .int .i64 0, .int .i64 0, .slice none 0 0, .int .i64 0], .bool false]) (by simp [results, Tryz.results93, go_sem, *]) rfl
      ⟨⟨none, 0, none, 0, none, 0, none, 0⟩, rfl, ⟨Fr.none_ _ _ _ _, Fr.none_ _ _ _ _, Fr.none_ _ _ _ _, Fr.none_ _ _ _ _⟩, (ze Ew1.out)⟩
  simp only [Bool.false_eq_true, if_false]
  have HM := zq hm
  clear hm
  generalize hz : (if ok = true then ((⟨n.table, nc, n.tags, n.space⟩ : MachD), true) else (noMach, false)) = z
  have HZ := zq hz
  clear hz
  go_enter Tryz.func93, Tryz.ntmps93
  go_wp2_with fail
  refine name_calls ?_; intro v1 hv1
  have X1 : Hid (Chg (0) (0) w v1) := zx hv1
  have t1 := X1.out.size
  have Ev1 := zq ((Ex.refl w).chg X1.out (by omega))
  have KX : Hid (Blk v1 (w.heap.size) 34 [.slice a.b m.table.buckets.length a.bc, .slice a.f m.table.frames.length a.fc, .slice a.l m.cache.lines.length a.lc, .int .i64 m.cache.hand, .int .i64 m.tags.count, .int .i64 m.tags.next, .int .i64 m.tags.round, .slice a.o m.tags.owns.length a.oc, .int .i64 m.space]) := zk hv1
  have lX : w.heap.size < v1.heap.size := KX.out.lt
  have KR : Hid (Blk v1 (w.heap.size + 1) 34 [.slice none 0 0, .slice none 0 0, .slice none 0 0, .int .i64 0, .int .i64 0, .int .i64 0, .int .i64 0, .slice none 0 0, .int .i64 0]) := zk hv1
  have lR : w.heap.size + 1 < v1.heap.size := KR.out.lt
  clear hv1
  refine (C1.out _ Ev1.out).mono ?_; rintro r w1 ⟨a1, oc, rfl, ⟨hfa, hfb, hfc, hfd⟩, hoc, hom, hb1⟩
  have Y1 := zq (Chg.of_ex hb1)
  have s1 := Y1.out.size
  have Ew1 := zq (Ev1.out.chg Y1.out (by omega))
  clear hb1
  replace KX := zq (KX.out.chg Y1.out (by omega))
  replace KR := zq (KR.out.chg Y1.out (by omega))
  have HFA := zq hfa; clear hfa
  have WHFA := zq HFA.out.row
  have HFB := zq hfb; clear hfb
  have WHFB := zq HFB.out.row
  have HFC := zq hfc; clear hfc
  have WHFC := zq HFC.out.row
  have HFD := zq hfd; clear hfd
  have WHFD := zq HFD.out.row
  obtain ⟨qX0, qX1, qX2, qX3, qX4, qX5, qX6, qX7, qX8⟩ := KX.out.c9
  have jX := KX.out.lt
  obtain ⟨qR0, qR1, qR2, qR3, qR4, qR5, qR6, qR7, qR8⟩ := KR.out.c9
  have jR := KR.out.lt
  have zR := KR.out.frozen
  have hoc3 : (oc == 3) = false := by
    have : oc ≠ 3 := fun e => by have := hom.1 e; rw [HM.out] at this; cases this
    simpa using this
  clear hom hoc HM
  go_wp2_with fail
  obtain ⟨w2, hw2⟩ : ∃ w2 : World, w2 = w1.alloc (.cells #[.slice a1.b n.table.buckets.length a1.bc, .slice a1.f n.table.frames.length a1.fc, .slice a1.l n.cache.lines.length a1.lc, .int .i64 n.cache.hand, .int .i64 n.tags.count, .int .i64 n.tags.next, .int .i64 n.tags.round, .slice a1.o n.tags.owns.length a1.oc, .int .i64 n.space] 34) := ⟨_, rfl⟩
  have Y2 : Hid (Chg 0 0 w1 w2) := zq (by rw [hw2]; exact (Chg.refl _ _ _).alloc _)
  have KO : Hid (Blk w2 w1.heap.size 34 [.slice a1.b n.table.buckets.length a1.bc, .slice a1.f n.table.frames.length a1.fc, .slice a1.l n.cache.lines.length a1.lc, .int .i64 n.cache.hand, .int .i64 n.tags.count, .int .i64 n.tags.next, .int .i64 n.tags.round, .slice a1.o n.tags.owns.length a1.oc, .int .i64 n.space]) := zq (by rw [hw2]; exact Blk.new _ _ _)
  obtain ⟨gO, hgO⟩ : ∃ gO, gO = w1.heap.size := ⟨_, rfl⟩
  rw [← hw2, ← hgO]
  rw [← hgO] at KO
  clear hw2
  have s2 := Y2.out.size
  have Ew2 := zq (Ew1.out.chg Y2.out (by omega))
  clear qX0 qX1 qX2 qX3 qX4 qX5 qX6 qX7 qX8 jX
  clear qR0 qR1 qR2 qR3 qR4 qR5 qR6 qR7 qR8 jR zR
  replace KX := zq (KX.out.chg Y2.out (by omega))
  replace KR := zq (KR.out.chg Y2.out (by omega))
  replace HFA := zq (HFA.out.chg Y2.out WHFA.out (by omega))
  replace HFB := zq (HFB.out.chg Y2.out WHFB.out (by omega))
  replace HFC := zq (HFC.out.chg Y2.out WHFC.out (by omega))
  replace HFD := zq (HFD.out.chg Y2.out WHFD.out (by omega))
  obtain ⟨qX0, qX1, qX2, qX3, qX4, qX5, qX6, qX7, qX8⟩ := KX.out.c9
  have jX := KX.out.lt
  obtain ⟨qR0, qR1, qR2, qR3, qR4, qR5, qR6, qR7, qR8⟩ := KR.out.c9
  have jR := KR.out.lt
  have zR := KR.out.frozen
  have hgO2 : w.heap.size + 1 < gO ∧ gO < w2.heap.size ∧ w1.heap.size ≤ gO := by have := KO.out.lt; omega
  clear hgO
  obtain ⟨qO0, qO1, qO2, qO3, qO4, qO5, qO6, qO7, qO8⟩ := KO.out.c9
  have jO := KO.out.lt
  clear qX0 qX1 qX2 qX3 qX4 qX5 qX6 qX7 qX8 jX
  clear qR0 qR1 qR2 qR3 qR4 qR5 qR6 qR7 qR8 jR zR
  clear qO0 qO1 qO2 qO3 qO4 qO5 qO6 qO7 qO8 jO
  have FK : Hid (∀ w', Ex w2 w' → (w'.cell? ⟨gO, 2, none⟩ = some (.slice a1.l n.cache.lines.length a1.lc) ∧ w'.cell? ⟨gO, 3, none⟩ = some (.int .i64 n.cache.hand))) := zq (fun w' h => ⟨(KO.out.ex h).c9.2.2.1, (KO.out.ex h).c9.2.2.2.1⟩)
  have HLC : Hid (n.cache.lines.length ≤ a1.lc ∧ a1.lc ≤ maxLen) := zq ⟨HFC.out.le, HFC.out.cap⟩
  go_cut [10, 11] (fun s10 s11 wx => ∃ (gT : Nat) (A : Option Addr) (c : Nat), s10 = .pointer (some ⟨gT, 0, none⟩) ∧ s11 = .bool ok ∧ Blk wx gT 29 [.slice A nc.lines.length c, .int .i64 nc.hand] ∧ Fr 64 wx w2.heap.size A c nc.lines ∧ w2.heap.size ≤ gT ∧ (∀ b, rowOf A c = some b → b ≠ gT) ∧ Ex w2 wx)
  case first =>
    go_region_held3 (fun w' => (w'.cell? ⟨gO, 2, none⟩ = some (.slice a1.l n.cache.lines.length a1.lc) ∧ w'.cell? ⟨gO, 3, none⟩ = some (.int .i64 n.cache.hand))) (first | (refine FK.out _ ?_; with_reducible (first | exact Ex.refl _ | exact (Ex.refl _).drew | exact ((Ex.refl _).alloc _).drew | exact hE1 | exact hE1.alloc _ | exact hE2 | exact hE2.alloc _ | exact (hE2.put hE1.size _).put hE1.size _ | exact (hE2.put (Nat.le_refl _) _).put (Nat.le_refl _) _)) | go_keep) (first
      | (go_at_call 104; (with_reducible refine (C2.out _ _ _ ?_).mono ?_); (exact HFC.out.rd.ex (by with_reducible repeat' (first | exact Ex.refl _ | refine Ex.alloc ?_ _ | refine Ex.drew ?_))); rintro r w3 ⟨rfl, hb3⟩; have hE1 : Ex w2 w3 := Ex.trans (by with_reducible repeat' (first | exact Ex.refl _ | refine Ex.alloc ?_ _ | refine Ex.drew ?_)) hb3; (first | (with_reducible (have hT := Blk.ex (Blk.drew (Blk.new w2 29 [.slice none 0 0, .int .i64 0])) hb3); obtain ⟨hT0, hT1⟩ := hT.c2; have hTf := hT.frozen; have hTl := hT.lt) | skip))
      | (go_at_call 107; (with_reducible refine (C3.out _ _ _ ?_ HLC.out.1 HLC.out.2).mono ?_); (first | (with_reducible exact HFC.out.rd.ex hE1) | (with_reducible exact HFC.out.rd.ex (hE1.alloc _))); rintro r w4 ⟨A4, c4, rfl, hf4, hb4⟩; (first | (with_reducible (have hE2 : Ex w2 w4 := Ex.trans hE1 hb4)) | (with_reducible (have hE2 : Ex w2 w4 := Ex.trans (hE1.alloc _) hb4))); (first | (with_reducible (have hT := Blk.ex hT hb4); obtain ⟨hT0, hT1⟩ := hT.c2; have hTf := hT.frozen; have hTl := hT.lt) | (with_reducible (have hT := Blk.ex (Blk.new w3 29 [.slice none 0 0, .int .i64 0]) hb4); obtain ⟨hT0, hT1⟩ := hT.c2; have hTf := hT.frozen; have hTl := hT.lt) | skip)))
    all_goals (go_wp2_with fail; go_meet)
    all_goals
      rename_i hHeld
      clear hHeld
      have z1 := hE1.size
      have z2 := hb4.size
      have z3 := hb3.size
      first
      | (refine ⟨w4.heap.size, A4, c4, ?hp, rfl, Blk.new _ _ _, (Fr.mono hf4 hE1.size).alloc _, hE2.size, fun b hb => by have := hf4.row b hb; omega, hE2.alloc _⟩
         case hp => with_reducible rfl)
      | (refine ⟨w3.heap.size, A4, c4, ?hp, rfl, Blk.put2 hT, ?hf, hE1.size, ?hr, (hE2.put hE1.size _).put hE1.size _⟩
         case hp => with_reducible rfl
         case hr => intro b hb; have := (hf4.row b hb).1; simp at this; omega
         case hf => exact Fr.mono (((Fr.put hf4 (fun b hb => by have := (hf4.row b hb).1; simp at this; omega) _)).put (fun b hb => by have := (hf4.row b hb).1; simp at this; omega) _) (by simp; omega))
      | (refine ⟨w2.heap.size, A4, c4, ?hp, rfl, Blk.put2 hT, ?hf, Nat.le_refl _, ?hr, (hE2.put (Nat.le_refl _) _).put (Nat.le_refl _) _⟩
         case hp => with_reducible rfl
         case hr => intro b hb; have := (hf4.row b hb).1; simp at z3; omega
         case hf => exact Fr.mono (((Fr.put hf4 (fun b hb => by have := (hf4.row b hb).1; simp at z3; omega) _)).put (fun b hb => by have := (hf4.row b hb).1; simp at z3; omega) _) hE1.size)
  case rest =>
    obtain ⟨gT, A5, c5, rfl, rfl, hkt, hft, hgt, hrt, hex⟩ := hcut
    have Y5 := zq (Chg.of_ex hex)
    have HFT := zq hft
    have KT := zq hkt
    have HRT := zq hrt
    clear hkt hft hrt hex
    have s5 := Y5.out.size
    have Ewc : Hid (Ex w wc) := zq (Ew2.out.chg Y5.out (by omega))
    replace KX := zq (KX.out.chg Y5.out (by omega))
    replace KR := zq (KR.out.chg Y5.out (by omega))
    replace KO := zq (KO.out.chg Y5.out (by omega))
    replace HFA := zq (HFA.out.chg Y5.out WHFA.out (by omega))
    replace HFB := zq (HFB.out.chg Y5.out WHFB.out (by omega))
    replace HFC := zq (HFC.out.chg Y5.out WHFC.out (by omega))
    replace HFD := zq (HFD.out.chg Y5.out WHFD.out (by omega))
    obtain ⟨qR0, qR1, qR2, qR3, qR4, qR5, qR6, qR7, qR8⟩ := KR.out.c9
    have jR := KR.out.lt
    have zR := KR.out.frozen
    obtain ⟨qO0, qO1, qO2, qO3, qO4, qO5, qO6, qO7, qO8⟩ := KO.out.c9
    have jO := KO.out.lt
    obtain ⟨qT0, qT1⟩ := KT.out.c2
    have jT := KT.out.lt
    have zR := KR.out.frozen
    have zO := KO.out.frozen
    have WHFT := zq HFT.out.row
    have hne1 : ¬ gO = w.heap.size + 1 := by omega
    have hne2 : ¬ w.heap.size + 1 = gO := by omega
    have hne3 : ¬ gO = gT := by omega
    have hne4 : ¬ gT = gO := by omega
    have hne5 : ¬ gT = w.heap.size + 1 := by omega
    have hne6 : ¬ w.heap.size + 1 = gT := by omega
    cases ok
    · have HZ2 : Hid (z = (noMach, false)) := zq (HZ.out.symm.trans (if_neg (by simp)))
      clear HZ
      go_wp2
      refine bodyPost_ret (v := .tuple #[.agg #[.slice none 0 0, .slice none 0 0, .slice none 0 0, .int .i64 0, .int .i64 0, .int .i64 0, .int .i64 0, .slice none 0 0, .int .i64 0], .bool false]) (by simp [results, Tryz.results93, go_sem, *]) rfl ?_
      rw [HZ2.out]
      exact ⟨⟨none, 0, none, 0, none, 0, none, 0⟩, rfl, ⟨Fr.none_ _ _ _ _, Fr.none_ _ _ _ _, Fr.none_ _ _ _ _, Fr.none_ _ _ _ _⟩, (ze Ewc.out)⟩
    · have HZ2 : Hid (z = (⟨n.table, nc, n.tags, n.space⟩, true)) := zq (HZ.out.symm.trans (if_pos rfl))
      clear HZ
      go_wp2
      refine bodyPost_ret (v := .tuple #[.agg #[.slice (⟨a1.b, a1.bc, a1.f, a1.fc, A5, c5, a1.o, a1.oc⟩ : MA).b (⟨n.table, nc, n.tags, n.space⟩ : MachD).table.buckets.length (⟨a1.b, a1.bc, a1.f, a1.fc, A5, c5, a1.o, a1.oc⟩ : MA).bc, .slice (⟨a1.b, a1.bc, a1.f, a1.fc, A5, c5, a1.o, a1.oc⟩ : MA).f (⟨n.table, nc, n.tags, n.space⟩ : MachD).table.frames.length (⟨a1.b, a1.bc, a1.f, a1.fc, A5, c5, a1.o, a1.oc⟩ : MA).fc, .slice (⟨a1.b, a1.bc, a1.f, a1.fc, A5, c5, a1.o, a1.oc⟩ : MA).l (⟨n.table, nc, n.tags, n.space⟩ : MachD).cache.lines.length (⟨a1.b, a1.bc, a1.f, a1.fc, A5, c5, a1.o, a1.oc⟩ : MA).lc, .int .i64 (⟨n.table, nc, n.tags, n.space⟩ : MachD).cache.hand, .int .i64 (⟨n.table, nc, n.tags, n.space⟩ : MachD).tags.count, .int .i64 (⟨n.table, nc, n.tags, n.space⟩ : MachD).tags.next, .int .i64 (⟨n.table, nc, n.tags, n.space⟩ : MachD).tags.round, .slice (⟨a1.b, a1.bc, a1.f, a1.fc, A5, c5, a1.o, a1.oc⟩ : MA).o (⟨n.table, nc, n.tags, n.space⟩ : MachD).tags.owns.length (⟨a1.b, a1.bc, a1.f, a1.fc, A5, c5, a1.o, a1.oc⟩ : MA).oc, .int .i64 (⟨n.table, nc, n.tags, n.space⟩ : MachD).space], .bool true]) (by simp [results, Tryz.results93, go_sem, *]) rfl ?_
      rw [HZ2.out]
      exact ⟨⟨a1.b, a1.bc, a1.f, a1.fc, A5, c5, a1.o, a1.oc⟩, rfl, ⟨(Fr.mono (zp HFA.out WHFA.out) (by omega)), (Fr.mono (zp HFB.out WHFB.out) (by omega)), (Fr.mono (zp HFT.out WHFT.out) (by omega)), (Fr.mono (zp HFD.out WHFD.out) (by omega))⟩, (ze Ewc.out)⟩

set_option maxHeartbeats 4000000 in
theorem putS_c (m : MachD) (a : MA) (k : KeyD) (i : Nat) (rt : Int) (w : World) (h : MachOk m) (hx : HasM w m a) (hc : CapM m a) (hkx : CapX a) (hk : keyOk k) (hs : keyFor k.space k.page = k) (hr : 0 ≤ rt ∧ rt < 8) (hi : i < m.table.frames.length) :
    Calls Tryz.prog 90 #[.agg #[.slice a.b m.table.buckets.length a.bc, .slice a.f m.table.frames.length a.fc, .slice a.l m.cache.lines.length a.lc, .int .i64 m.cache.hand, .int .i64 m.tags.count, .int .i64 m.tags.next, .int .i64 m.tags.round, .slice a.o m.tags.owns.length a.oc, .int .i64 m.space], .agg #[.int .i64 k.space, .int .i64 k.page], .int .i64 i, .int .i64 rt] w (MachOr (putM m k i rt) w) := by
  have hf := h.fewM
  have C1 := zq (fun w' (e : Ex w w') => machS_c m a w' (hx.ex e) hf hc)
  rw [machV_yes h] at C1
  have C2 := zq (fun w' => sharedS_c k w' hk hs)
  have C3 := zq (fun w' (e : Ex w w') => mapPageS_c m.table a.b a.bc a.f a.fc k i rt w' (hx.b.ex e) (hx.f.ex e) hc.b hc.f hkx.b hkx.f h.1.1 hk hr hi)
  have C4 := zq (fun w' (e : Ex w w') => l6Copy_c m a w' (hx.ex e) hf hc hkx)
  unfold putM
  unfold mapT at C3
  clear hf hx hc hkx h hk hs hr
  cases hp : putsT m.table k i
  · rw [hp] at C3
    simp only [Bool.false_eq_true, if_false] at C3 ⊢
    clear hp
    go_enter Tryz.func90, Tryz.ntmps90
    go_wp2_with fail
    refine name_calls ?_; intro v1 hv1
    have X1 : Hid (Chg (0) (0) w v1) := zx hv1
    have t1 := X1.out.size
    have Ev1 := zq ((Ex.refl w).chg X1.out (by omega))
    have KX : Hid (Blk v1 (w.heap.size) 34 [.slice a.b m.table.buckets.length a.bc, .slice a.f m.table.frames.length a.fc, .slice a.l m.cache.lines.length a.lc, .int .i64 m.cache.hand, .int .i64 m.tags.count, .int .i64 m.tags.next, .int .i64 m.tags.round, .slice a.o m.tags.owns.length a.oc, .int .i64 m.space]) := zk hv1
    have lX : w.heap.size < v1.heap.size := KX.out.lt
    have KK : Hid (Blk v1 (w.heap.size + 1) 43 [.int .i64 k.space, .int .i64 k.page]) := zk hv1
    have lK : w.heap.size + 1 < v1.heap.size := KK.out.lt
    have KR : Hid (Blk v1 (w.heap.size + 1 + 1) 34 [.slice none 0 0, .slice none 0 0, .slice none 0 0, .int .i64 0, .int .i64 0, .int .i64 0, .int .i64 0, .slice none 0 0, .int .i64 0]) := zk hv1
    have lR : w.heap.size + 1 + 1 < v1.heap.size := KR.out.lt
    clear hv1
    refine (C1.out _ Ev1.out).mono ?_; rintro r w1 ⟨rfl, hb1⟩
    have Y1 := zq (Chg.of_ex hb1)
    have s1 := Y1.out.size
    have Ew1 := zq (Ev1.out.chg Y1.out (by omega))
    clear hb1
    replace KX := zq (KX.out.chg Y1.out (by omega))
    replace KK := zq (KK.out.chg Y1.out (by omega))
    replace KR := zq (KR.out.chg Y1.out (by omega))
    obtain ⟨qX0, qX1, qX2, qX3, qX4, qX5, qX6, qX7, qX8⟩ := KX.out.c9
    have jX := KX.out.lt
    obtain ⟨qK0, qK1⟩ := KK.out.c2
    have jK := KK.out.lt
    obtain ⟨qR0, qR1, qR2, qR3, qR4, qR5, qR6, qR7, qR8⟩ := KR.out.c9
    have jR := KR.out.lt
    have zR := KR.out.frozen
    go_wp2_with fail
    refine name_calls ?_; intro v2 hv2
    have X2 : Hid (Chg (0) (0) w1 v2) := zx hv2
    have t2 := X2.out.size
    have Ev2 := zq (Ew1.out.chg X2.out (by omega))
    clear qX0 qX1 qX2 qX3 qX4 qX5 qX6 qX7 qX8 jX
    clear qK0 qK1 jK
    clear qR0 qR1 qR2 qR3 qR4 qR5 qR6 qR7 qR8 jR zR
    replace KX := zq (KX.out.chg X2.out (by omega))
    replace KK := zq (KK.out.chg X2.out (by omega))
    replace KR := zq (KR.out.chg X2.out (by omega))
    clear hv2
    refine (C2.out _).mono ?_; rintro r w2 ⟨rfl, hb2⟩
    have Y2 := zq (Chg.of_ex hb2)
    have s2 := Y2.out.size
    have Ew2 := zq (Ev2.out.chg Y2.out (by omega))
    clear hb2
    replace KX := zq (KX.out.chg Y2.out (by omega))
    replace KK := zq (KK.out.chg Y2.out (by omega))
    replace KR := zq (KR.out.chg Y2.out (by omega))
    obtain ⟨qX0, qX1, qX2, qX3, qX4, qX5, qX6, qX7, qX8⟩ := KX.out.c9
    have jX := KX.out.lt
    obtain ⟨qK0, qK1⟩ := KK.out.c2
    have jK := KK.out.lt
    obtain ⟨qR0, qR1, qR2, qR3, qR4, qR5, qR6, qR7, qR8⟩ := KR.out.c9
    have jR := KR.out.lt
    have zR := KR.out.frozen
    go_wp2_with fail
    refine name_calls ?_; intro v3 hv3
    have X3 : Hid (Chg (0) (0) w2 v3) := zx hv3
    have t3 := X3.out.size
    have Ev3 := zq (Ew2.out.chg X3.out (by omega))
    clear qX0 qX1 qX2 qX3 qX4 qX5 qX6 qX7 qX8 jX
    clear qK0 qK1 jK
    clear qR0 qR1 qR2 qR3 qR4 qR5 qR6 qR7 qR8 jR zR
    replace KX := zq (KX.out.chg X3.out (by omega))
    replace KK := zq (KK.out.chg X3.out (by omega))
    replace KR := zq (KR.out.chg X3.out (by omega))
    clear hv3
    refine (C3.out _ Ev3.out).mono ?_; rintro r w3 ⟨A3, c3, B3, d3, rfl, hfa, hfb, hb3⟩
    have Y3 := zq (Chg.of_ex hb3)
    have s3 := Y3.out.size
    have Ew3 := zq (Ev3.out.chg Y3.out (by omega))
    clear hb3
    replace KX := zq (KX.out.chg Y3.out (by omega))
    replace KK := zq (KK.out.chg Y3.out (by omega))
    replace KR := zq (KR.out.chg Y3.out (by omega))
    have HFA := zq hfa; clear hfa
    have WHFA := zq HFA.out.row
    have HFB := zq hfb; clear hfb
    have WHFB := zq HFB.out.row
    obtain ⟨qX0, qX1, qX2, qX3, qX4, qX5, qX6, qX7, qX8⟩ := KX.out.c9
    have jX := KX.out.lt
    obtain ⟨qK0, qK1⟩ := KK.out.c2
    have jK := KK.out.lt
    obtain ⟨qR0, qR1, qR2, qR3, qR4, qR5, qR6, qR7, qR8⟩ := KR.out.c9
    have jR := KR.out.lt
    have zR := KR.out.frozen
    go_wp2
    exact bodyPost_ret (v := .tuple #[.agg #[.slice none 0 0, .slice none 0 0, .slice none 0 0, .int .i64 0, .int .i64 0, .int .i64 0, .int .i64 0, .slice none 0 0, .int .i64 0], .bool false]) (by simp [results, Tryz.results90, go_sem, *]) rfl
      ⟨⟨none, 0, none, 0, none, 0, none, 0⟩, rfl, ⟨Fr.none_ _ _ _ _, Fr.none_ _ _ _ _, Fr.none_ _ _ _ _, Fr.none_ _ _ _ _⟩, (ze Ew3.out)⟩
  · rw [hp] at C3
    simp only [if_true] at C3 ⊢
    clear hp
    generalize linkT m.table k i rt = q at C3 ⊢
    go_enter Tryz.func90, Tryz.ntmps90
    go_wp2_with fail
    refine name_calls ?_; intro v1 hv1
    have X1 : Hid (Chg (0) (0) w v1) := zx hv1
    have t1 := X1.out.size
    have Ev1 := zq ((Ex.refl w).chg X1.out (by omega))
    have KX : Hid (Blk v1 (w.heap.size) 34 [.slice a.b m.table.buckets.length a.bc, .slice a.f m.table.frames.length a.fc, .slice a.l m.cache.lines.length a.lc, .int .i64 m.cache.hand, .int .i64 m.tags.count, .int .i64 m.tags.next, .int .i64 m.tags.round, .slice a.o m.tags.owns.length a.oc, .int .i64 m.space]) := zk hv1
    have lX : w.heap.size < v1.heap.size := KX.out.lt
    have KK : Hid (Blk v1 (w.heap.size + 1) 43 [.int .i64 k.space, .int .i64 k.page]) := zk hv1
    have lK : w.heap.size + 1 < v1.heap.size := KK.out.lt
    have KR : Hid (Blk v1 (w.heap.size + 1 + 1) 34 [.slice none 0 0, .slice none 0 0, .slice none 0 0, .int .i64 0, .int .i64 0, .int .i64 0, .int .i64 0, .slice none 0 0, .int .i64 0]) := zk hv1
    have lR : w.heap.size + 1 + 1 < v1.heap.size := KR.out.lt
    clear hv1
    refine (C1.out _ Ev1.out).mono ?_; rintro r w1 ⟨rfl, hb1⟩
    have Y1 := zq (Chg.of_ex hb1)
    have s1 := Y1.out.size
    have Ew1 := zq (Ev1.out.chg Y1.out (by omega))
    clear hb1
    replace KX := zq (KX.out.chg Y1.out (by omega))
    replace KK := zq (KK.out.chg Y1.out (by omega))
    replace KR := zq (KR.out.chg Y1.out (by omega))
    obtain ⟨qX0, qX1, qX2, qX3, qX4, qX5, qX6, qX7, qX8⟩ := KX.out.c9
    have jX := KX.out.lt
    obtain ⟨qK0, qK1⟩ := KK.out.c2
    have jK := KK.out.lt
    obtain ⟨qR0, qR1, qR2, qR3, qR4, qR5, qR6, qR7, qR8⟩ := KR.out.c9
    have jR := KR.out.lt
    have zR := KR.out.frozen
    go_wp2_with fail
    refine name_calls ?_; intro v2 hv2
    have X2 : Hid (Chg (0) (0) w1 v2) := zx hv2
    have t2 := X2.out.size
    have Ev2 := zq (Ew1.out.chg X2.out (by omega))
    clear qX0 qX1 qX2 qX3 qX4 qX5 qX6 qX7 qX8 jX
    clear qK0 qK1 jK
    clear qR0 qR1 qR2 qR3 qR4 qR5 qR6 qR7 qR8 jR zR
    replace KX := zq (KX.out.chg X2.out (by omega))
    replace KK := zq (KK.out.chg X2.out (by omega))
    replace KR := zq (KR.out.chg X2.out (by omega))
    clear hv2
    refine (C2.out _).mono ?_; rintro r w2 ⟨rfl, hb2⟩
    have Y2 := zq (Chg.of_ex hb2)
    have s2 := Y2.out.size
    have Ew2 := zq (Ev2.out.chg Y2.out (by omega))
    clear hb2
    replace KX := zq (KX.out.chg Y2.out (by omega))
    replace KK := zq (KK.out.chg Y2.out (by omega))
    replace KR := zq (KR.out.chg Y2.out (by omega))
    obtain ⟨qX0, qX1, qX2, qX3, qX4, qX5, qX6, qX7, qX8⟩ := KX.out.c9
    have jX := KX.out.lt
    obtain ⟨qK0, qK1⟩ := KK.out.c2
    have jK := KK.out.lt
    obtain ⟨qR0, qR1, qR2, qR3, qR4, qR5, qR6, qR7, qR8⟩ := KR.out.c9
    have jR := KR.out.lt
    have zR := KR.out.frozen
    go_wp2_with fail
    refine name_calls ?_; intro v3 hv3
    have X3 : Hid (Chg (0) (0) w2 v3) := zx hv3
    have t3 := X3.out.size
    have Ev3 := zq (Ew2.out.chg X3.out (by omega))
    clear qX0 qX1 qX2 qX3 qX4 qX5 qX6 qX7 qX8 jX
    clear qK0 qK1 jK
    clear qR0 qR1 qR2 qR3 qR4 qR5 qR6 qR7 qR8 jR zR
    replace KX := zq (KX.out.chg X3.out (by omega))
    replace KK := zq (KK.out.chg X3.out (by omega))
    replace KR := zq (KR.out.chg X3.out (by omega))
    clear hv3
    refine (C3.out _ Ev3.out).mono ?_; rintro r w3 ⟨A3, c3, B3, d3, rfl, hfa, hfb, hb3⟩
    have Y3 := zq (Chg.of_ex hb3)
    have s3 := Y3.out.size
    have Ew3 := zq (Ev3.out.chg Y3.out (by omega))
    clear hb3
    replace KX := zq (KX.out.chg Y3.out (by omega))
    replace KK := zq (KK.out.chg Y3.out (by omega))
    replace KR := zq (KR.out.chg Y3.out (by omega))
    have HFA := zq hfa; clear hfa
    have WHFA := zq HFA.out.row
    have HFB := zq hfb; clear hfb
    have WHFB := zq HFB.out.row
    obtain ⟨qX0, qX1, qX2, qX3, qX4, qX5, qX6, qX7, qX8⟩ := KX.out.c9
    have jX := KX.out.lt
    obtain ⟨qK0, qK1⟩ := KK.out.c2
    have jK := KK.out.lt
    obtain ⟨qR0, qR1, qR2, qR3, qR4, qR5, qR6, qR7, qR8⟩ := KR.out.c9
    have jR := KR.out.lt
    have zR := KR.out.frozen
    go_wp2_with fail
    refine name_calls ?_; intro v4 hv4
    have X4 : Hid (Chg (0) (0) w3 v4) := zx hv4
    have t4 := X4.out.size
    have Ev4 := zq (Ew3.out.chg X4.out (by omega))
    clear qX0 qX1 qX2 qX3 qX4 qX5 qX6 qX7 qX8 jX
    clear qK0 qK1 jK
    clear qR0 qR1 qR2 qR3 qR4 qR5 qR6 qR7 qR8 jR zR
    replace KX := zq (KX.out.chg X4.out (by omega))
    replace KK := zq (KK.out.chg X4.out (by omega))
    replace KR := zq (KR.out.chg X4.out (by omega))
    replace HFA := zq (HFA.out.chg X4.out WHFA.out (by omega))
    replace HFB := zq (HFB.out.chg X4.out WHFB.out (by omega))
    have KT : Hid (Blk v4 (w3.heap.size) 26 [.slice A3 q.buckets.length c3, .slice B3 q.frames.length d3]) := zk hv4
    have lT : w3.heap.size < v4.heap.size := KT.out.lt
    clear hv4
    refine (C4.out _ Ev4.out).mono ?_; rintro r w4 ⟨a4, rfl, ⟨hfc, hfd, hfe, hff⟩, hb4⟩
    have Y4 := zq (Chg.of_ex hb4)
    have s4 := Y4.out.size
    have Ew4 := zq (Ev4.out.chg Y4.out (by omega))
    clear hb4
    replace KX := zq (KX.out.chg Y4.out (by omega))
    replace KK := zq (KK.out.chg Y4.out (by omega))
    replace KR := zq (KR.out.chg Y4.out (by omega))
    replace KT := zq (KT.out.chg Y4.out (by omega))
    replace HFA := zq (HFA.out.chg Y4.out WHFA.out (by omega))
    replace HFB := zq (HFB.out.chg Y4.out WHFB.out (by omega))
    have HFC := zq hfc; clear hfc
    have WHFC := zq HFC.out.row
    have HFD := zq hfd; clear hfd
    have WHFD := zq HFD.out.row
    have HFE := zq hfe; clear hfe
    have WHFE := zq HFE.out.row
    have HFF := zq hff; clear hff
    have WHFF := zq HFF.out.row
    obtain ⟨qX0, qX1, qX2, qX3, qX4, qX5, qX6, qX7, qX8⟩ := KX.out.c9
    have jX := KX.out.lt
    obtain ⟨qK0, qK1⟩ := KK.out.c2
    have jK := KK.out.lt
    obtain ⟨qR0, qR1, qR2, qR3, qR4, qR5, qR6, qR7, qR8⟩ := KR.out.c9
    have jR := KR.out.lt
    have zR := KR.out.frozen
    obtain ⟨qT0, qT1⟩ := KT.out.c2
    have jT := KT.out.lt
    have hne1 : ¬ w4.heap.size = w.heap.size + 1 + 1 := by omega
    have hne2 : ¬ w.heap.size + 1 + 1 = w4.heap.size := by omega
    have hne3 : ¬ w4.heap.size = w3.heap.size := by omega
    have hne4 : ¬ w3.heap.size = w4.heap.size := by omega
    go_wp2
    exact bodyPost_ret (v := .tuple #[.agg #[.slice (⟨A3, c3, B3, d3, a4.l, a4.lc, a4.o, a4.oc⟩ : MA).b (⟨q, m.cache, m.tags, m.space⟩ : MachD).table.buckets.length (⟨A3, c3, B3, d3, a4.l, a4.lc, a4.o, a4.oc⟩ : MA).bc, .slice (⟨A3, c3, B3, d3, a4.l, a4.lc, a4.o, a4.oc⟩ : MA).f (⟨q, m.cache, m.tags, m.space⟩ : MachD).table.frames.length (⟨A3, c3, B3, d3, a4.l, a4.lc, a4.o, a4.oc⟩ : MA).fc, .slice (⟨A3, c3, B3, d3, a4.l, a4.lc, a4.o, a4.oc⟩ : MA).l (⟨q, m.cache, m.tags, m.space⟩ : MachD).cache.lines.length (⟨A3, c3, B3, d3, a4.l, a4.lc, a4.o, a4.oc⟩ : MA).lc, .int .i64 (⟨q, m.cache, m.tags, m.space⟩ : MachD).cache.hand, .int .i64 (⟨q, m.cache, m.tags, m.space⟩ : MachD).tags.count, .int .i64 (⟨q, m.cache, m.tags, m.space⟩ : MachD).tags.next, .int .i64 (⟨q, m.cache, m.tags, m.space⟩ : MachD).tags.round, .slice (⟨A3, c3, B3, d3, a4.l, a4.lc, a4.o, a4.oc⟩ : MA).o (⟨q, m.cache, m.tags, m.space⟩ : MachD).tags.owns.length (⟨A3, c3, B3, d3, a4.l, a4.lc, a4.o, a4.oc⟩ : MA).oc, .int .i64 (⟨q, m.cache, m.tags, m.space⟩ : MachD).space], .bool true]) (by simp [results, Tryz.results90, go_sem, *]) rfl
      ⟨⟨A3, c3, B3, d3, a4.l, a4.lc, a4.o, a4.oc⟩, rfl, ⟨(Fr.mono (zp HFA.out WHFA.out) (by omega)), (Fr.mono (zp HFB.out WHFB.out) (by omega)), (Fr.mono (zp HFE.out WHFE.out) (by omega)), (Fr.mono (zp HFF.out WHFF.out) (by omega))⟩, (ze Ew4.out)⟩

set_option maxHeartbeats 4000000 in
theorem takeS_c (m : MachD) (a : MA) (k : KeyD) (w : World) (h : MachOk m) (hx : HasM w m a) (hc : CapM m a) (hkx : CapX a) (hk : keyOk k) :
    Calls Tryz.prog 94 #[.agg #[.slice a.b m.table.buckets.length a.bc, .slice a.f m.table.frames.length a.fc, .slice a.l m.cache.lines.length a.lc, .int .i64 m.cache.hand, .int .i64 m.tags.count, .int .i64 m.tags.next, .int .i64 m.tags.round, .slice a.o m.tags.owns.length a.oc, .int .i64 m.space], .agg #[.int .i64 k.space, .int .i64 k.page]] w (MachOr (takeM m k) w) := by
  have hf := h.fewM
  have C1 := zq (fun w' (e : Ex w w') => machS_c m a w' (hx.ex e) hf hc)
  rw [machV_yes h] at C1
  have C2 := zq (fun w' (e : Ex w w') => unmapS_c m.table a.b a.bc a.f a.fc k w' (hx.b.ex e) (hx.f.ex e) hc.b hc.f hkx.b hkx.f h.1.1 hk)
  have C3 := zq (fun w' (e : Ex w w') => forgetS_c m a k w' h (hx.ex e) hc hkx)
  unfold takeM
  unfold unmapT at C2
  clear hf hx hc hkx h hk
  by_cases hq : findF m.table k < 0
  · rw [if_pos hq] at C2 ⊢
    clear hq
    go_enter Tryz.func94, Tryz.ntmps94
    go_wp2_with fail
    refine name_calls ?_; intro v1 hv1
    have X1 : Hid (Chg (0) (0) w v1) := zx hv1
    have t1 := X1.out.size
    have Ev1 := zq ((Ex.refl w).chg X1.out (by omega))
    have KX : Hid (Blk v1 (w.heap.size) 34 [.slice a.b m.table.buckets.length a.bc, .slice a.f m.table.frames.length a.fc, .slice a.l m.cache.lines.length a.lc, .int .i64 m.cache.hand, .int .i64 m.tags.count, .int .i64 m.tags.next, .int .i64 m.tags.round, .slice a.o m.tags.owns.length a.oc, .int .i64 m.space]) := zk hv1
    have lX : w.heap.size < v1.heap.size := KX.out.lt
    have KK : Hid (Blk v1 (w.heap.size + 1) 43 [.int .i64 k.space, .int .i64 k.page]) := zk hv1
    have lK : w.heap.size + 1 < v1.heap.size := KK.out.lt
    have KR : Hid (Blk v1 (w.heap.size + 1 + 1) 34 [.slice none 0 0, .slice none 0 0, .slice none 0 0, .int .i64 0, .int .i64 0, .int .i64 0, .int .i64 0, .slice none 0 0, .int .i64 0]) := zk hv1
    have lR : w.heap.size + 1 + 1 < v1.heap.size := KR.out.lt
    clear hv1
    refine (C1.out _ Ev1.out).mono ?_; rintro r w1 ⟨rfl, hb1⟩
    have Y1 := zq (Chg.of_ex hb1)
    have s1 := Y1.out.size
    have Ew1 := zq (Ev1.out.chg Y1.out (by omega))
    clear hb1
    replace KX := zq (KX.out.chg Y1.out (by omega))
    replace KK := zq (KK.out.chg Y1.out (by omega))
    replace KR := zq (KR.out.chg Y1.out (by omega))
    obtain ⟨qX0, qX1, qX2, qX3, qX4, qX5, qX6, qX7, qX8⟩ := KX.out.c9
    have jX := KX.out.lt
    obtain ⟨qK0, qK1⟩ := KK.out.c2
    have jK := KK.out.lt
    obtain ⟨qR0, qR1, qR2, qR3, qR4, qR5, qR6, qR7, qR8⟩ := KR.out.c9
    have jR := KR.out.lt
    have zR := KR.out.frozen
    go_wp2_with fail
    refine name_calls ?_; intro v2 hv2
    have X2 : Hid (Chg (0) (0) w1 v2) := zx hv2
    have t2 := X2.out.size
    have Ev2 := zq (Ew1.out.chg X2.out (by omega))
    clear qX0 qX1 qX2 qX3 qX4 qX5 qX6 qX7 qX8 jX
    clear qK0 qK1 jK
    clear qR0 qR1 qR2 qR3 qR4 qR5 qR6 qR7 qR8 jR zR
    replace KX := zq (KX.out.chg X2.out (by omega))
    replace KK := zq (KK.out.chg X2.out (by omega))
    replace KR := zq (KR.out.chg X2.out (by omega))
    clear hv2
    refine (C2.out _ Ev2.out).mono ?_; rintro r w2 ⟨A2, c2, B2, d2, rfl, hfa, hfb, hb2⟩
    have Y2 := zq (Chg.of_ex hb2)
    have s2 := Y2.out.size
    have Ew2 := zq (Ev2.out.chg Y2.out (by omega))
    clear hb2
    replace KX := zq (KX.out.chg Y2.out (by omega))
    replace KK := zq (KK.out.chg Y2.out (by omega))
    replace KR := zq (KR.out.chg Y2.out (by omega))
    have HFA := zq hfa; clear hfa
    have WHFA := zq HFA.out.row
    have HFB := zq hfb; clear hfb
    have WHFB := zq HFB.out.row
    obtain ⟨qX0, qX1, qX2, qX3, qX4, qX5, qX6, qX7, qX8⟩ := KX.out.c9
    have jX := KX.out.lt
    obtain ⟨qK0, qK1⟩ := KK.out.c2
    have jK := KK.out.lt
    obtain ⟨qR0, qR1, qR2, qR3, qR4, qR5, qR6, qR7, qR8⟩ := KR.out.c9
    have jR := KR.out.lt
    have zR := KR.out.frozen
    go_wp2
    exact bodyPost_ret (v := .tuple #[.agg #[.slice none 0 0, .slice none 0 0, .slice none 0 0, .int .i64 0, .int .i64 0, .int .i64 0, .int .i64 0, .slice none 0 0, .int .i64 0], .bool false]) (by simp [results, Tryz.results94, go_sem, *]) rfl
      ⟨⟨none, 0, none, 0, none, 0, none, 0⟩, rfl, ⟨Fr.none_ _ _ _ _, Fr.none_ _ _ _ _, Fr.none_ _ _ _ _, Fr.none_ _ _ _ _⟩, (ze Ew2.out)⟩
  · rw [if_neg hq] at C2 ⊢
    clear hq
    generalize unlinkT m.table (findF m.table k).toNat = q at C2 ⊢
    generalize forgetC m k = fc at C3 ⊢
    go_enter Tryz.func94, Tryz.ntmps94
    go_wp2_with fail
    refine name_calls ?_; intro v1 hv1
    have X1 : Hid (Chg (0) (0) w v1) := zx hv1
    have t1 := X1.out.size
    have Ev1 := zq ((Ex.refl w).chg X1.out (by omega))
    have KX : Hid (Blk v1 (w.heap.size) 34 [.slice a.b m.table.buckets.length a.bc, .slice a.f m.table.frames.length a.fc, .slice a.l m.cache.lines.length a.lc, .int .i64 m.cache.hand, .int .i64 m.tags.count, .int .i64 m.tags.next, .int .i64 m.tags.round, .slice a.o m.tags.owns.length a.oc, .int .i64 m.space]) := zk hv1
    have lX : w.heap.size < v1.heap.size := KX.out.lt
    have KK : Hid (Blk v1 (w.heap.size + 1) 43 [.int .i64 k.space, .int .i64 k.page]) := zk hv1
    have lK : w.heap.size + 1 < v1.heap.size := KK.out.lt
    have KR : Hid (Blk v1 (w.heap.size + 1 + 1) 34 [.slice none 0 0, .slice none 0 0, .slice none 0 0, .int .i64 0, .int .i64 0, .int .i64 0, .int .i64 0, .slice none 0 0, .int .i64 0]) := zk hv1
    have lR : w.heap.size + 1 + 1 < v1.heap.size := KR.out.lt
    clear hv1
    refine (C1.out _ Ev1.out).mono ?_; rintro r w1 ⟨rfl, hb1⟩
    have Y1 := zq (Chg.of_ex hb1)
    have s1 := Y1.out.size
    have Ew1 := zq (Ev1.out.chg Y1.out (by omega))
    clear hb1
    replace KX := zq (KX.out.chg Y1.out (by omega))
    replace KK := zq (KK.out.chg Y1.out (by omega))
    replace KR := zq (KR.out.chg Y1.out (by omega))
    obtain ⟨qX0, qX1, qX2, qX3, qX4, qX5, qX6, qX7, qX8⟩ := KX.out.c9
    have jX := KX.out.lt
    obtain ⟨qK0, qK1⟩ := KK.out.c2
    have jK := KK.out.lt
    obtain ⟨qR0, qR1, qR2, qR3, qR4, qR5, qR6, qR7, qR8⟩ := KR.out.c9
    have jR := KR.out.lt
    have zR := KR.out.frozen
    go_wp2_with fail
    refine name_calls ?_; intro v2 hv2
    have X2 : Hid (Chg (0) (0) w1 v2) := zx hv2
    have t2 := X2.out.size
    have Ev2 := zq (Ew1.out.chg X2.out (by omega))
    clear qX0 qX1 qX2 qX3 qX4 qX5 qX6 qX7 qX8 jX
    clear qK0 qK1 jK
    clear qR0 qR1 qR2 qR3 qR4 qR5 qR6 qR7 qR8 jR zR
    replace KX := zq (KX.out.chg X2.out (by omega))
    replace KK := zq (KK.out.chg X2.out (by omega))
    replace KR := zq (KR.out.chg X2.out (by omega))
    clear hv2
    refine (C2.out _ Ev2.out).mono ?_; rintro r w2 ⟨A2, c2, B2, d2, rfl, hfa, hfb, hb2⟩
    have Y2 := zq (Chg.of_ex hb2)
    have s2 := Y2.out.size
    have Ew2 := zq (Ev2.out.chg Y2.out (by omega))
    clear hb2
    replace KX := zq (KX.out.chg Y2.out (by omega))
    replace KK := zq (KK.out.chg Y2.out (by omega))
    replace KR := zq (KR.out.chg Y2.out (by omega))
    have HFA := zq hfa; clear hfa
    have WHFA := zq HFA.out.row
    have HFB := zq hfb; clear hfb
    have WHFB := zq HFB.out.row
    obtain ⟨qX0, qX1, qX2, qX3, qX4, qX5, qX6, qX7, qX8⟩ := KX.out.c9
    have jX := KX.out.lt
    obtain ⟨qK0, qK1⟩ := KK.out.c2
    have jK := KK.out.lt
    obtain ⟨qR0, qR1, qR2, qR3, qR4, qR5, qR6, qR7, qR8⟩ := KR.out.c9
    have jR := KR.out.lt
    have zR := KR.out.frozen
    go_wp2_with fail
    refine name_calls ?_; intro v3 hv3
    have X3 : Hid (Chg (0) (0) w2 v3) := zx hv3
    have t3 := X3.out.size
    have Ev3 := zq (Ew2.out.chg X3.out (by omega))
    clear qX0 qX1 qX2 qX3 qX4 qX5 qX6 qX7 qX8 jX
    clear qK0 qK1 jK
    clear qR0 qR1 qR2 qR3 qR4 qR5 qR6 qR7 qR8 jR zR
    replace KX := zq (KX.out.chg X3.out (by omega))
    replace KK := zq (KK.out.chg X3.out (by omega))
    replace KR := zq (KR.out.chg X3.out (by omega))
    replace HFA := zq (HFA.out.chg X3.out WHFA.out (by omega))
    replace HFB := zq (HFB.out.chg X3.out WHFB.out (by omega))
    have KT : Hid (Blk v3 (w2.heap.size) 26 [.slice A2 q.buckets.length c2, .slice B2 q.frames.length d2]) := zk hv3
    have lT : w2.heap.size < v3.heap.size := KT.out.lt
    clear hv3
    refine (C3.out _ Ev3.out).mono ?_; rintro r w3 ⟨a3, rfl, ⟨hfc, hfd, hfe, hff⟩, hb3⟩
    have Y3 := zq (Chg.of_ex hb3)
    have s3 := Y3.out.size
    have Ew3 := zq (Ev3.out.chg Y3.out (by omega))
    clear hb3
    replace KX := zq (KX.out.chg Y3.out (by omega))
    replace KK := zq (KK.out.chg Y3.out (by omega))
    replace KR := zq (KR.out.chg Y3.out (by omega))
    replace KT := zq (KT.out.chg Y3.out (by omega))
    replace HFA := zq (HFA.out.chg Y3.out WHFA.out (by omega))
    replace HFB := zq (HFB.out.chg Y3.out WHFB.out (by omega))
    have HFC := zq hfc; clear hfc
    have WHFC := zq HFC.out.row
    have HFD := zq hfd; clear hfd
    have WHFD := zq HFD.out.row
    have HFE := zq hfe; clear hfe
    have WHFE := zq HFE.out.row
    have HFF := zq hff; clear hff
    have WHFF := zq HFF.out.row
    obtain ⟨qX0, qX1, qX2, qX3, qX4, qX5, qX6, qX7, qX8⟩ := KX.out.c9
    have jX := KX.out.lt
    obtain ⟨qK0, qK1⟩ := KK.out.c2
    have jK := KK.out.lt
    obtain ⟨qR0, qR1, qR2, qR3, qR4, qR5, qR6, qR7, qR8⟩ := KR.out.c9
    have jR := KR.out.lt
    have zR := KR.out.frozen
    obtain ⟨qT0, qT1⟩ := KT.out.c2
    have jT := KT.out.lt
    have hne1 : ¬ w3.heap.size = w.heap.size + 1 + 1 := by omega
    have hne2 : ¬ w.heap.size + 1 + 1 = w3.heap.size := by omega
    have hne3 : ¬ w3.heap.size = w2.heap.size := by omega
    have hne4 : ¬ w2.heap.size = w3.heap.size := by omega
    go_wp2
    exact bodyPost_ret (v := .tuple #[.agg #[.slice (⟨A2, c2, B2, d2, a3.l, a3.lc, a3.o, a3.oc⟩ : MA).b (⟨q, fc, m.tags, m.space⟩ : MachD).table.buckets.length (⟨A2, c2, B2, d2, a3.l, a3.lc, a3.o, a3.oc⟩ : MA).bc, .slice (⟨A2, c2, B2, d2, a3.l, a3.lc, a3.o, a3.oc⟩ : MA).f (⟨q, fc, m.tags, m.space⟩ : MachD).table.frames.length (⟨A2, c2, B2, d2, a3.l, a3.lc, a3.o, a3.oc⟩ : MA).fc, .slice (⟨A2, c2, B2, d2, a3.l, a3.lc, a3.o, a3.oc⟩ : MA).l (⟨q, fc, m.tags, m.space⟩ : MachD).cache.lines.length (⟨A2, c2, B2, d2, a3.l, a3.lc, a3.o, a3.oc⟩ : MA).lc, .int .i64 (⟨q, fc, m.tags, m.space⟩ : MachD).cache.hand, .int .i64 (⟨q, fc, m.tags, m.space⟩ : MachD).tags.count, .int .i64 (⟨q, fc, m.tags, m.space⟩ : MachD).tags.next, .int .i64 (⟨q, fc, m.tags, m.space⟩ : MachD).tags.round, .slice (⟨A2, c2, B2, d2, a3.l, a3.lc, a3.o, a3.oc⟩ : MA).o (⟨q, fc, m.tags, m.space⟩ : MachD).tags.owns.length (⟨A2, c2, B2, d2, a3.l, a3.lc, a3.o, a3.oc⟩ : MA).oc, .int .i64 (⟨q, fc, m.tags, m.space⟩ : MachD).space], .bool true]) (by simp [results, Tryz.results94, go_sem, *]) rfl
      ⟨⟨A2, c2, B2, d2, a3.l, a3.lc, a3.o, a3.oc⟩, rfl, ⟨(Fr.mono (zp HFA.out WHFA.out) (by omega)), (Fr.mono (zp HFB.out WHFB.out) (by omega)), (Fr.mono (zp HFE.out WHFE.out) (by omega)), (Fr.mono (zp HFF.out WHFF.out) (by omega))⟩, (ze Ew3.out)⟩

/-- A byte of the drawn code. -/
structure ByteD where
  n : Int
deriving DecidableEq, Inhabited

instance : Rec ByteD where
  sz := 1
  cs b := [.int .u8 b.n]
  len _ := rfl
  pos := by decide
  one _ u hu := by simp at hu; subst hu; rfl

theorem Rd.byte {w : World} {A : Option Addr} {k : Nat} {xs : List ByteD} (h : Rd w A xs) (hk : k < xs.length) : ∃ b off x, A = some ⟨b, off, none⟩ ∧ b < w.heap.size ∧ xs[k]? = some x ∧
    w.cell? ⟨b, off + k, none⟩ = some (.int .u8 x.n) := by
  obtain ⟨b, off, x, e, hb, hx, hc⟩ := h.at_ hk
  exact ⟨b, off, x, e, hb, hx, by have := hc 0 _ (by decide) rfl; simpa [sz] using this⟩

def Bytes (bs : List ByteD) : Prop := ∀ b ∈ bs, 0 ≤ b.n ∧ b.n ≤ 255

/-- Block g is a reader that has picked p times. -/
def Rdr (w : World) (g p : Nat) : Prop := ∃ A c bs, Blk w g 69 [.slice A bs.length c, .int .i64 (p : Int)] ∧ Rd w A bs ∧ bs.length ≤ 2000 ∧ bs.length ≤ c ∧ Bytes bs ∧ (0 < bs.length → ∀ b o, A = some ⟨b, o, none⟩ → b < g)

theorem Rdr.ex {w w' : World} {g p : Nat} (h : Rdr w g p) (k : Ex w w') : Rdr w' g p := by
  obtain ⟨A, c, bs, h1, h2, h3⟩ := h
  exact ⟨A, c, bs, h1.ex k, h2.ex k, h3⟩
theorem Rdr.alloc {w : World} {g p : Nat} (h : Rdr w g p) (o : Obj) : Rdr (w.alloc o) g p := h.ex ((Ex.refl w).alloc o)
theorem Rdr.drew {w : World} {g p : Nat} (h : Rdr w g p) : Rdr w.drew g p := h.ex ((Ex.refl w).drew)
theorem Rdr.lt {w : World} {g p : Nat} (h : Rdr w g p) : g < w.heap.size := by
  obtain ⟨A, c, bs, h1, _⟩ := h
  exact h1.lt

theorem Rd.lits (w : World) (T : TypeId) (zs : List Int) : Rd (w.alloc (.cells (zs.map (Value.int .i64)).toArray T)) (some ⟨w.heap.size, 0, none⟩) zs := by
  have e : flat zs = zs.map (Value.int .i64) := by
    induction zs with
    | nil => rfl
    | cons z zs ih => simp [ih, cs]
  have := Bk.rd (Bk.new w T zs)
  rwa [e] at this

set_option maxHeartbeats 400000 in
theorem l12Open_c (A : Option Addr) (c : Nat) (bs : List ByteD) (w : World) (hx : Rd w A bs) (hb : Bytes bs) (hn : bs.length ≤ 1048576) (hc : bs.length ≤ c) (hcm : c ≤ maxLen) :
    Calls Tryz.prog 17 #[.slice A bs.length c] w fun r w' => ∃ g, r = .returned (.pointer (some ⟨g, 0, none⟩)) ∧ Rdr w' g 0 ∧ w.heap.size ≤ g ∧ Ex w w' := by
  have H1 := zq hx
  have hlt : 0 < bs.length → ∀ b o, A = some ⟨b, o, none⟩ → b < w.heap.size := fun h0 b o e => by
    obtain ⟨b', o', e', hb', _⟩ := hx h0
    rw [e] at e'
    injection e' with e'
    injection e' with e1
    omega
  have H2 := zq hlt
  unfold maxLen at hcm
  clear hx hlt
  by_cases h2 : 2000 < bs.length
  · have hl : (bs.take 2000).length = 2000 := by rw [List.length_take]; omega
    have h3 : (2000 : Int) < (bs.length : Int) := by omega
    have HL := zq hl
    clear hl
    go_enter Tryz.func17, Tryz.ntmps17
    go_wp2
    go_ret
    refine ⟨_, rfl, ⟨A, c, bs.take 2000, ?_, (H1.out.take 2000).alloc _, by rw [HL.out]; exact Nat.le_refl _, by rw [HL.out]; omega, fun b hb' => hb b (List.mem_of_mem_take hb'), fun _ => H2.out (by omega)⟩, Nat.le_refl _, (Ex.refl _).alloc _⟩
    rw [HL.out]
    exact Blk.new_at _ _ _ rfl
  · have h3 : ¬ (2000 : Int) < (bs.length : Int) := by omega
    go_enter Tryz.func17, Tryz.ntmps17
    go_wp2
    go_ret
    exact ⟨_, rfl, ⟨A, c, bs, Blk.new_at _ _ _ rfl, H1.out.alloc _, by omega, hc, hb, H2.out⟩, Nat.le_refl _, (Ex.refl _).alloc _⟩

theorem ofInt_i64 (a : Nat) (ha : a < 9223372036854775808) : (BitVec.ofInt 64 (a : Int)).toNat = a := by
  rw [BitVec.ofInt_natCast, BitVec.toNat_ofNat]; exact Nat.mod_eq_of_lt (by omega)
theorem i64_xor_nat (a b : Nat) (ha : a < 9223372036854775808) (hb : b < 9223372036854775808) : bits .xor .i64 (a : Int) (b : Int) = ((a ^^^ b : Nat) : Int) := by
  have hx : a ^^^ b < 2 ^ 63 := Nat.xor_lt_two_pow (by omega) (by omega)
  show IntKind.i64.wrap ((BitVec.ofInt 64 (a : Int) ^^^ BitVec.ofInt 64 (b : Int)).toNat : Int) = _
  rw [BitVec.toNat_xor, ofInt_i64 a ha, ofInt_i64 b hb, IntKind.wrap_i64]
  omega

def InB (v n : Int) : Prop := 0 ≤ v ∧ (1 ≤ n → v < n) ∧ (n < 1 → v = 0)

/-- What a pick leaves. -/
def Picked (g p : Nat) (n : Int) (w : World) (e : Ending) (w' : World) : Prop := ∃ v : Int, e = .returned (.int .i64 v) ∧ InB v n ∧ Rdr w' g (p + 1) ∧ w.grownBy w' (some g)

theorem rdr_step {w : World} {g p : Nat} {A : Option Addr} {c : Nat} {bs : List ByteD} (h1 : Blk w g 69 [.slice A bs.length c, .int .i64 (p : Int)]) (h2 : Rd w A bs) (h3 : bs.length ≤ 2000) (h4 : bs.length ≤ c) (h5 : Bytes bs) (h6 : 0 < bs.length → ∀ b o, A = some ⟨b, o, none⟩ → b < g) :
    Rdr (w.setCell ⟨g, 1, none⟩ (.int .i64 ((p : Int) + 1))) g (p + 1) := by
  refine ⟨A, c, bs, ?_, ?_, h3, h4, h5, h6⟩
  · have := h1.set 1 (.int .i64 ((p : Int) + 1))
    simpa using this
  · intro h0
    obtain ⟨b, o, e, hb, hc⟩ := h2 h0
    have := h6 h0 b o e
    exact ⟨b, o, e, by simpa using hb, fun m u hu => (World.cell?_setCell_other w ⟨g, 1, none⟩ ⟨b, o + m, none⟩ _ (by intro e; injection e with e1; omega)).trans (hc m u hu)⟩

set_option maxHeartbeats 1000000 in
theorem pick_c (g p : Nat) (n : Int) (w : World) (h : Rdr w g p) (hp : p ≤ 1000000) (hn : n ≤ 1000000) :
    Calls Tryz.prog 35 #[.pointer (some ⟨g, 0, none⟩), .int .i64 n] w (Picked g p n w) := by
  obtain ⟨A, c, bs, h1, h2, h3, h4, h5, h6⟩ := h
  have hst := rdr_step h1 h2 h3 h4 h5 h6
  have HST := zq hst
  have HG : Hid (w.grownBy (w.setCell ⟨g, 1, none⟩ (.int .i64 ((p : Int) + 1))) (some g)) := zq (grown_set (grown_refl w _) _ _)
  obtain ⟨q0, q1⟩ := h1.c2
  have hfz := h1.frozen
  by_cases hn1 : n < 1
  · have HF : Hid (InB 0 n) := zq ⟨Int.le_refl _, fun h => by omega, fun _ => rfl⟩
    go_enter Tryz.func35, Tryz.ntmps35
    go_wp2
    go_ret
    exact ⟨0, rfl, HF.out, HST.out, HG.out⟩
  by_cases hb0 : bs.length = 0
  · have hbe : ((bs.length : Int) == 0) = true := by simp [hb0]
    have HF : Hid (InB 0 n) := zq ⟨Int.le_refl _, fun h => by omega, fun _ => by omega⟩
    obtain ⟨m, hm⟩ : ∃ m, m = bs.length := ⟨_, rfl⟩
    rw [← hm] at q0 hbe
    clear hm hb0 h1 h2
    go_enter Tryz.func35, Tryz.ntmps35
    go_wp2
    go_ret
    exact ⟨0, rfl, HF.out, HST.out, HG.out⟩
  obtain ⟨m, hm⟩ : ∃ m, m = bs.length := ⟨_, rfl⟩
  have HM := zq hm
  rw [← hm] at q0 h3 hb0
  have hmp : 0 < m := by omega
  have hne : ((m : Int) == 0) = false := by simp; omega
  have hn1' : ¬ n < 1 := hn1
  have key : ∀ k : Nat, k < m → ∃ b o x, A = some ⟨b, o, none⟩ ∧ 0 ≤ x ∧ x ≤ 255 ∧ (w.setCell ⟨g, 1, none⟩ (.int .i64 ((p : Int) + 1))).cell? ⟨b, o + k, none⟩ = some (.int .u8 x) := by
    intro k hk
    obtain ⟨b, o, x, e, hb, hx, hc⟩ := Rd.byte h2 (k := k) (by omega)
    have h7 := h6 (by omega) b o e
    have h8 := h5 x (List.mem_of_getElem? hx)
    exact ⟨b, o, x.n, e, h8.1, h8.2, (World.cell?_setCell_other w ⟨g, 1, none⟩ ⟨b, o + k, none⟩ _ (by intro e; injection e with e1; omega)).trans hc⟩
  have KEY := zq key
  clear key hst h1 h2 h5 h6 hm
  by_cases hlt : p < m
  · obtain ⟨b, o, x, rfl, hx0, hx1, hcell⟩ := KEY.out p hlt
    have HF : Hid (InB (x % n) n) := zq ⟨Int.emod_nonneg _ (by omega), fun _ => Int.emod_lt_of_pos _ (by omega), fun h => by omega⟩
    go_enter Tryz.func35, Tryz.ntmps35
    go_wp2
    go_ret
    exact ⟨x % n, rfl, HF.out, HST.out, HG.out⟩
  · have hge : ¬ (p : Int) < (m : Int) := by omega
    obtain ⟨b, o, x, rfl, hx0, hx1, hcell⟩ := KEY.out (p % m) (Nat.mod_lt _ hmp)
    obtain ⟨b', o', y, e', hy0, hy1, hcell'⟩ := KEY.out ((p * 7 + 3) % m) (Nat.mod_lt _ hmp)
    injection e' with e'
    injection e' with e1 e2
    subst e1 e2
    have d1 : (0 : Int) ≤ (p : Int) % (m : Int) := Int.emod_nonneg _ (by omega)
    have d2 : (p : Int) % (m : Int) < (m : Int) := Int.emod_lt_of_pos _ (by omega)
    have d3 : (0 : Int) ≤ ((p : Int) * 7 + 3) % (m : Int) := Int.emod_nonneg _ (by omega)
    have d4 : ((p : Int) * 7 + 3) % (m : Int) < (m : Int) := Int.emod_lt_of_pos _ (by omega)
    have d5 : ((p : Int) % (m : Int)).toNat = p % m := by omega
    have d6 : (((p : Int) * 7 + 3) % (m : Int)).toNat = (p * 7 + 3) % m := by
      have e : ((p : Int) * 7 + 3) % (m : Int) = (((p * 7 + 3) % m : Nat) : Int) := by simp
      rw [e, Int.toNat_natCast]
    have d7 : (0 : Int) ≤ (p : Int) / (m : Int) := Int.ediv_nonneg (by omega) (by omega)
    have d8 : (p : Int) / (m : Int) ≤ 1000000 := by
      have e : (p : Int) / (m : Int) = ((p / m : Nat) : Int) := by simp
      rw [e]; have := Nat.div_le_self p m; omega
    go_enter Tryz.func35, Tryz.ntmps35
    go_wp2_with fail
    go_quiet (fail)
    have x0 : 0 ≤ x * 131 + y * 1117 + (p : Int) * 29 + (p : Int) / (m : Int) * 53 := by omega
    have x1 : x * 131 + y * 1117 + (p : Int) * 29 + (p : Int) / (m : Int) * 53 ≤ 1000000000 := by omega
    generalize hq : x * 131 + y * 1117 + (p : Int) * 29 + (p : Int) / (m : Int) * 53 = q at x0 x1 ⊢
    obtain ⟨q, rfl⟩ := Int.eq_ofNat_of_zero_le x0
    clear hq d1 d2 d3 d4 d5 d6 d7 d8 hcell hcell'
    have hx : bits .xor .i64 (q : Int) ((q : Int) / 64) = ((q ^^^ (q / 64) : Nat) : Int) := by
      have := i64_xor_nat q (q / 64) (by omega) (by omega)
      simpa using this
    have hxb : q ^^^ (q / 64) < 2 ^ 30 := Nat.xor_lt_two_pow (by omega) (by omega)
    have hxb' : (0 : Int) ≤ ((q ^^^ (q / 64) : Nat) : Int) := by omega
    generalize hz : q ^^^ (q / 64) = z at hx hxb hxb'
    clear hz
    have HF : Hid (InB ((z : Int) % n) n) := zq ⟨Int.emod_nonneg _ (by omega), fun _ => Int.emod_lt_of_pos _ (by omega), fun h => by omega⟩
    go_wp2
    go_ret
    exact ⟨(z : Int) % n, rfl, HF.out, HST.out.ex ((Ex.refl _).drewN _), grown_ex HG.out ((Ex.refl _).drewN _)⟩

/-- What a choice among the numbers zs leaves. -/
def Chosen (g p : Nat) (zs : List Int) (w : World) (e : Ending) (w' : World) : Prop := ∃ v : Int, e = .returned (.int .i64 v) ∧ v ∈ zs ∧ Rdr w' g (p + 1) ∧ w.grownBy w' (some g)

set_option maxHeartbeats 1000000 in
theorem num_c (g p b o c : Nat) (zs : List Int) (w : World) (h : Rdr w g p) (hz : Rd w (some ⟨b, o, none⟩) zs) (h0 : 0 < zs.length) (h1 : zs.length ≤ 1000000) (hp : p ≤ 1000000) (hbg : b ≠ g) :
    Calls Tryz.prog 38 #[.pointer (some ⟨g, 0, none⟩), .slice (some ⟨b, o, none⟩) zs.length c] w (Chosen g p zs w) := by
  have H := zq h
  have HZ := zq hz
  obtain ⟨n, hn⟩ : ∃ n, n = zs.length := ⟨_, rfl⟩
  have HN := zq hn
  rw [← hn] at h0 h1 ⊢
  clear h hz hn
  go_enter Tryz.func38, Tryz.ntmps38
  go_wp2_with fail
  refine (pick_c g p n w H.out hp (by omega)).mono ?_
  rintro r w1 ⟨v, rfl, ⟨hv0, hv1, hv2⟩, hr, hg⟩
  have hv1' : v < n := hv1 (by omega)
  obtain ⟨k, rfl⟩ := Int.eq_ofNat_of_zero_le hv0
  have hk : k < n := by omega
  have hgr : Rd w1 (some ⟨b, o, none⟩) zs := HZ.out.grown hg (fun b' e off e' => by injection e with e; injection e' with e'; injection e' with e1; omega)
  obtain ⟨b', o', x, e, hb, hx, hc⟩ := Rd.int hgr (k := k) (by have := HN.out; omega)
  injection e with e
  injection e with e1 e2
  subst e1 e2
  have HX : Hid (x ∈ zs) := zq (List.mem_of_getElem? hx)
  have HR := zq hr
  have HG := zq hg
  clear hv1 hv2 hr hg hgr hx
  go_wp2
  go_ret
  exact ⟨x, rfl, HX.out, HR.out, HG.out⟩
end Go.Proofs.YtbdlpbladpppjaaGreatDoor
namespace Go.Proofs.YtbdlpbladpppjaaGreatDoor
open Go.ChangeShapes Go.WideShapes Go.ChangeAt Go.RowKit
open Rec (sz cs)

theorem Rdr.chg {w w' : World} {g p lo hi : Nat} (h : Rdr w g p) (k : Chg lo hi w w') (h1 : g < lo ∨ hi ≤ lo) : Rdr w' g p := by
  obtain ⟨A, c, bs, a1, a2, a3, a4, a5, a6⟩ := h
  refine ⟨A, c, bs, a1.chg k (by omega), ?_, a3, a4, a5, a6⟩
  intro h0
  obtain ⟨b, o, e, hb, hc⟩ := a2 h0
  have := a6 h0 b o e
  exact ⟨b, o, e, Nat.lt_of_lt_of_le hb k.size, fun m u hu => (World.cell?_of_block (w := w) (a := ⟨b, o + m, none⟩) (k.block b hb (by omega))).trans (hc m u hu)⟩
theorem Rd.lits_at (w : World) (T : TypeId) (zs : List Int) {g : Nat} (hg : g = w.heap.size) : Rd (w.alloc (.cells (zs.map (Value.int .i64)).toArray T)) (some ⟨g, 0, none⟩) zs := by
  subst hg; exact Rd.lits _ _ _
end Go.Proofs.YtbdlpbladpppjaaGreatDoor
namespace Go.Proofs.YtbdlpbladpppjaaGreatDoor
open Go.ChangeShapes Go.WideShapes Go.ChangeAt Go.RowKit
open Rec (sz cs)
set_option linter.unusedVariables false
set_option maxRecDepth 100000

theorem Rd.past {w w' : World} {g b : Nat} {xs : List Int} (h : Rd w (some ⟨b, 0, none⟩) xs) (k : w.grownBy w' (some g)) (hb : b ≠ g) : Rd w' (some ⟨b, 0, none⟩) xs :=
  h.grown k (fun b' e off e2 => by injection e with e; injection e2 with e2; injection e2 with e2; omega)
theorem Rd.lits_drew (w : World) (T : TypeId) (zs : List Int) : Rd ((w.alloc (.cells (zs.map (Value.int .i64)).toArray T)).drew) (some ⟨w.heap.size, 0, none⟩) zs := (Rd.lits w T zs).drew

/-- A small machine: whatever a drawn one may be. -/
structure FewB (m : MachD) (k : Nat) : Prop where
  b : m.table.buckets.length ≤ k
  f : m.table.frames.length ≤ k
  l : m.cache.lines.length ≤ 8
  o : m.tags.owns.length ≤ k
  z : 0 < m.table.frames.length → 0 < m.table.buckets.length
theorem FewB.few {m : MachD} {k : Nat} (h : FewB m k) (hk : k ≤ 1000) : FewM m := ⟨by have := h.b; omega, by have := h.f; omega, by have := h.l; omega, by have := h.o; omega⟩
theorem MachOk.fewB {m : MachD} (h : MachOk m) : FewB m 16 := by
  obtain ⟨h1, h2, h3, h4, h5, h6, h7⟩ := h.few
  exact ⟨h1, h2, h3, by omega, fun _ => h5⟩
/-- Some machine comes back, and the reader has gone on. -/
def SomeMach (g p lo k : Nat) (P : MachD → Prop) (w : World) (e : Ending) (w' : World) : Prop := ∃ (m : MachD) (a : MA) (p' : Nat), e = .returned (.agg #[.slice a.b m.table.buckets.length a.bc, .slice a.f m.table.frames.length a.fc, .slice a.l m.cache.lines.length a.lc, .int .i64 m.cache.hand, .int .i64 m.tags.count, .int .i64 m.tags.next, .int .i64 m.tags.round, .slice a.o m.tags.owns.length a.oc, .int .i64 m.space]) ∧ P m ∧ FrM w' lo m a ∧ Rdr w' g p' ∧ p' ≤ p + k ∧ w.grownBy w' (some g)
/-- A step of a machine: where it could be made, the machine is valid. -/
def StepOr (w : World) (e : Ending) (w' : World) : Prop := ∃ (n : MachD) (a : MA) (ok : Bool), e = .returned (.tuple #[.agg #[.slice a.b n.table.buckets.length a.bc, .slice a.f n.table.frames.length a.fc, .slice a.l n.cache.lines.length a.lc, .int .i64 n.cache.hand, .int .i64 n.tags.count, .int .i64 n.tags.next, .int .i64 n.tags.round, .slice a.o n.tags.owns.length a.oc, .int .i64 n.space], .bool ok]) ∧ (ok = true → MachOk n) ∧ FrM w' w.heap.size n a ∧ Ex w w'
def SomePage (g p : Nat) (w : World) (e : Ending) (w' : World) : Prop := ∃ v : Int, e = .returned (.int .i64 v) ∧ (0 ≤ v ∧ v < 256) ∧ Rdr w' g (p + 1) ∧ w.grownBy w' (some g)

set_option maxHeartbeats 1000000 in
theorem l6Page_c (g p : Nat) (w : World) (h : Rdr w g p) (hp : p ≤ 900000) : Calls Tryz.prog 91 #[.pointer (some ⟨g, 0, none⟩)] w (SomePage g p w) := by
  have lg := h.lt
  have HR0 := zq h
  clear h
  go_enter Tryz.func91, Tryz.ntmps91
  go_wp2_with fail
  refine name_calls ?_; intro v1 hv1
  have X1 : Hid (Chg (0) (0) w v1) := zx hv1
  have t1 := X1.out.size
  have Ev1 : Hid (Chg g (g + 1) w v1) := zq ((Chg.refl g (g + 1) w).step X1.out (by omega))
  replace HR0 := zq (HR0.out.chg X1.out (by omega))
  have L1 : Hid (Rd v1 (some ⟨w.heap.size, 0, none⟩) ([1, 2, 3, 4, 200, 201, 5] : List Int)) := zq (by rw [hv1]; repeat' (first | exact Rd.lits _ _ _ | exact Rd.lits_at _ _ _ (by simp) | with_reducible refine Rd.alloc ?_ _))
  clear hv1
  refine (num_c g p _ 0 _ [1, 2, 3, 4, 200, 201, 5] _ HR0.out L1.out (by simp) (by simp) (by omega) (by omega)).mono ?_; rintro r w1 ⟨n1, rfl, hhn1, hrd1, hb1⟩
  have Y1 : Hid (Chg (g) (g + 1) v1 w1) := zq (Chg.of_grown hb1 (fun b hb => by injection hb with hb; omega))
  have s1 := Y1.out.size
  have Ew1 : Hid (Chg g (g + 1) w w1) := zq (Ev1.out.step Y1.out (by omega))
  clear hb1
  clear HR0
  have HRD1 := zq hrd1; clear hrd1
  have HHN1 := zq hhn1; clear hhn1
  go_wp2
  go_ret
  exact ⟨n1, rfl, by have := HHN1.out; simp at this; omega, HRD1.out, Chg.grown Ew1.out⟩
end Go.Proofs.YtbdlpbladpppjaaGreatDoor
