/- Joined: Zd, Zf, Zg, Qc, Co. -/
import Derived.Test.YtbdlpbladpppjaaGreatDoorJ4
import Derived.Test.YtbdlpbladpppjaaGreatDoorJ3
import Derived.Test.YtbdlpbladpppjaaGreatDoorJ1
namespace Go.Proofs.YtbdlpbladpppjaaGreatDoor
open Go.ChangeShapes Go.WideShapes Go.ChangeAt Go.RowKit
open Rec (sz cs)
set_option linter.unusedVariables false
set_option maxRecDepth 100000

set_option maxHeartbeats 2000000 in
theorem tagS_c (m : MachD) (a : MA) (s p : Int) (w : World) (h : MachOk m) (hx : HasM w m a) :
    Calls Tryz.prog 103 #[.agg #[.slice a.b m.table.buckets.length a.bc, .slice a.f m.table.frames.length a.fc, .slice a.l m.cache.lines.length a.lc, .int .i64 m.cache.hand, .int .i64 m.tags.count, .int .i64 m.tags.next, .int .i64 m.tags.round, .slice a.o m.tags.owns.length a.oc, .int .i64 m.space], .int .i64 s, .int .i64 p] w fun r w' => r = .returned (.tuple #[.int .i64 (tagFor m s p).1, .bool (tagFor m s p).2]) ∧ Ex w w' := by
  have hf := h.fewM
  have HO := zq hx.o
  obtain ⟨A, c, B, d, L, ee, O, g⟩ := a
  dsimp only at HO ⊢
  have C1 := zq (fun w' (e : Ex w w') => l5Find_c m.tags s O g w' (HO.out.ex e) hf.o)
  unfold tagFor
  by_cases hp : 128 ≤ p
  · rw [if_pos hp]
    clear hx hf h
    go_enter Tryz.func103, Tryz.ntmps103
    go_wp2
    exact bodyPost_ret (v := .tuple #[.int .i64 (-1), .bool true]) (by simp [results, Tryz.results103, go_sem]) rfl ⟨rfl, (Ex.refl _).alloc _⟩
  rw [if_neg hp]
  rcases place_or m.tags.owns s with ⟨e, _⟩ | ⟨k, x, e, hk, _⟩
  · rw [e, if_pos (by omega)]
    rw [e] at C1
    clear hx hf h e
    go_enter Tryz.func103, Tryz.ntmps103
    go_wp2_with fail
    refine name_calls ?_; intro v1 hv1
    have X1 : Hid (Chg (0) (0) w v1) := zx hv1
    have t1 := X1.out.size
    have Ev1 := zq ((Ex.refl w).chg X1.out (by omega))
    have KX : Hid (Blk v1 (w.heap.size) 34 [.slice A m.table.buckets.length c, .slice B m.table.frames.length d, .slice L m.cache.lines.length ee, .int .i64 m.cache.hand, .int .i64 m.tags.count, .int .i64 m.tags.next, .int .i64 m.tags.round, .slice O m.tags.owns.length g, .int .i64 m.space]) := zk hv1
    have lX : w.heap.size < v1.heap.size := KX.out.lt
    clear hv1
    refine (C1.out _ Ev1.out).mono ?_; rintro r w1 ⟨rfl, hb1⟩
    have Y1 := zq (Chg.of_ex hb1)
    have s1 := Y1.out.size
    have Ew1 := zq (Ev1.out.chg Y1.out (by omega))
    clear hb1
    replace KX := zq (KX.out.chg Y1.out (by omega))
    obtain ⟨qX0, qX1, qX2, qX3, qX4, qX5, qX6, qX7, qX8⟩ := KX.out.c9
    have jX := KX.out.lt
    go_wp2
    exact bodyPost_ret (v := .tuple #[.int .i64 0, .bool false]) (by simp [results, Tryz.results103, go_sem]) rfl ⟨rfl, Ew1.out⟩
  · rw [e, if_neg (by omega), Int.toNat_natCast, own_getD hk]
    rw [e] at C1
    have hkl := getElem?_lt hk
    have HK := zq hk
    have hkn : (k : Int) < (m.tags.owns.length : Int) := by omega
    have hk0 : ¬ (k : Int) < 0 := by omega
    obtain ⟨b, o, x', rfl, hb, hx', p0, p1⟩ := HO.out.own hkl
    obtain rfl : x' = x := by rw [hk] at hx'; injection hx' with q; exact q.symm
    have PK : Hid (∀ w', Ex w w' → w'.cell? ⟨b, o + k * 2 + 1, none⟩ = some (.int .i64 x'.tag)) := zq (fun w' h => (h.cell hb).trans p1)
    clear hx hf h e hk hx' p0 p1
    go_enter Tryz.func103, Tryz.ntmps103
    go_wp2_with fail
    refine name_calls ?_; intro v1 hv1
    have X1 : Hid (Chg (0) (0) w v1) := zx hv1
    have t1 := X1.out.size
    have Ev1 := zq ((Ex.refl w).chg X1.out (by omega))
    have KX : Hid (Blk v1 (w.heap.size) 34 [.slice A m.table.buckets.length c, .slice B m.table.frames.length d, .slice L m.cache.lines.length ee, .int .i64 m.cache.hand, .int .i64 m.tags.count, .int .i64 m.tags.next, .int .i64 m.tags.round,   .slice (some ⟨b, o, none⟩) m.tags.owns.length g, .int .i64 m.space]) := zk hv1
    have lX : w.heap.size < v1.heap.size := KX.out.lt
    clear hv1
    refine (C1.out _ Ev1.out).mono ?_; rintro r w1 ⟨rfl, hb1⟩
    have Y1 := zq (Chg.of_ex hb1)
    have s1 := Y1.out.size
    have Ew1 := zq (Ev1.out.chg Y1.out (by omega))
    clear hb1
    replace KX := zq (KX.out.chg Y1.out (by omega))
    obtain ⟨qX0, qX1, qX2, qX3, qX4, qX5, qX6, qX7, qX8⟩ := KX.out.c9
    have jX := KX.out.lt
    have pk := PK.out _ Ew1.out
    go_wp2
    exact bodyPost_ret (v := .tuple #[.int .i64 x'.tag, .bool true]) (by simp [results, Tryz.results103, go_sem]) rfl ⟨rfl, Ew1.out⟩

set_option maxHeartbeats 4000000 in
theorem forgetS_c (m : MachD) (a : MA) (k : KeyD) (w : World) (h : MachOk m) (hx : HasM w m a) (hc : CapM m a) (hk : CapX a) :
    Calls Tryz.prog 109 #[.agg #[.slice a.b m.table.buckets.length a.bc, .slice a.f m.table.frames.length a.fc, .slice a.l m.cache.lines.length a.lc, .int .i64 m.cache.hand, .int .i64 m.tags.count, .int .i64 m.tags.next, .int .i64 m.tags.round, .slice a.o m.tags.owns.length a.oc, .int .i64 m.space], .agg #[.int .i64 k.space, .int .i64 k.page]] w (MachIs ⟨m.table, forgetC m k, m.tags, m.space⟩ w) := by
  have hf := h.fewM
  have C1 := zq (fun w' (e : Ex w w') => l6Copy_c m a w' (hx.ex e) hf hc hk)
  have C2 := zq (fun w' (e : Ex w w') => tagS_c m a k.space k.page w' h (hx.ex e))
  have C3 := zq (fun g w' (e : Ex w w') => dropPageS_c m.cache g k.page a.l a.lc w' (hx.l.ex e) hf.l hc.l hk.l)
  unfold forgetC
  generalize tagFor m k.space k.page = q at C2 ⊢
  obtain ⟨g, ok⟩ := q
  dsimp only at C2 ⊢
  have C3 := zq (C3.out g)
  generalize dropPage m.cache g k.page = z at C3 ⊢
  obtain ⟨dc, dk⟩ := z
  dsimp only at C3 ⊢
  clear hf hx hc hk h
  cases ok
  · simp only [Bool.false_eq_true, if_false]
    go_enter Tryz.func109, Tryz.ntmps109
    go_wp2_with fail
    refine name_calls ?_; intro v1 hv1
    have X1 : Hid (Chg (0) (0) w v1) := zx hv1
    have t1 := X1.out.size
    have Ev1 := zq ((Ex.refl w).chg X1.out (by omega))
    have KX : Hid (Blk v1 (w.heap.size) 34 [.slice a.b m.table.buckets.length a.bc, .slice a.f m.table.frames.length a.fc, .slice a.l m.cache.lines.length a.lc, .int .i64 m.cache.hand, .int .i64 m.tags.count, .int .i64 m.tags.next, .int .i64 m.tags.round, .slice a.o m.tags.owns.length a.oc, .int .i64 m.space]) := zk hv1
    have lX : w.heap.size < v1.heap.size := KX.out.lt
    have KK : Hid (Blk v1 (w.heap.size + 1) 43 [.int .i64 k.space, .int .i64 k.page]) := zk hv1
    have lK : w.heap.size + 1 < v1.heap.size := KK.out.lt
    have KR : Hid (Blk v1 (w.heap.size + 1 + 1) 34 [.slice none 0 0, .slice none 0 0, .slice none 0 0, .int .i64 0, .int .i64 0, .int .i64 0, .int .i64 0, .slice none 0 0, .int .i64 0]) := zk hv1
    have lR : w.heap.size + 1 + 1 < v1.heap.size := KR.out.lt
    clear hv1
    refine (C1.out _ Ev1.out).mono ?_; rintro r w1 ⟨a1, rfl, ⟨hfa, hfb, hfc, hfd⟩, hb1⟩
    have Y1 := zq (Chg.of_ex hb1)
    have s1 := Y1.out.size
    have Ew1 := zq (Ev1.out.chg Y1.out (by omega))
    clear hb1
    replace KX := zq (KX.out.chg Y1.out (by omega))
    replace KK := zq (KK.out.chg Y1.out (by omega))
    replace KR := zq (KR.out.chg Y1.out (by omega))
    have HFA := zq hfa; clear hfa
    have WHFA := zq HFA.out.row
    have HFB := zq hfb; clear hfb
    have WHFB := zq HFB.out.row
    have HFC := zq hfc; clear hfc
    have WHFC := zq HFC.out.row
    have HFD := zq hfd; clear hfd
    have WHFD := zq HFD.out.row
    obtain ⟨qX0, qX1, qX2, qX3, qX4, qX5, qX6, qX7, qX8⟩ := KX.out.c9
    have jX := KX.out.lt
    obtain ⟨qK0, qK1⟩ := KK.out.c2
    have jK := KK.out.lt
    obtain ⟨qR0, qR1, qR2, qR3, qR4, qR5, qR6, qR7, qR8⟩ := KR.out.c9
    have jR := KR.out.lt
    have zR := KR.out.frozen
    go_wp2_with fail
    refine name_calls ?_; intro v2 hv2
    have X2 : Hid (Chg (0) (0) w1 v2) := zx hv2
    have t2 := X2.out.size
    have Ev2 := zq (Ew1.out.chg X2.out (by omega))
    clear qX0 qX1 qX2 qX3 qX4 qX5 qX6 qX7 qX8 jX
    clear qK0 qK1 jK
    clear qR0 qR1 qR2 qR3 qR4 qR5 qR6 qR7 qR8 jR zR
    replace KX := zq (KX.out.chg X2.out (by omega))
    replace KK := zq (KK.out.chg X2.out (by omega))
    replace KR := zq (KR.out.chg X2.out (by omega))
    replace HFA := zq (HFA.out.chg X2.out WHFA.out (by omega))
    replace HFB := zq (HFB.out.chg X2.out WHFB.out (by omega))
    replace HFC := zq (HFC.out.chg X2.out WHFC.out (by omega))
    replace HFD := zq (HFD.out.chg X2.out WHFD.out (by omega))
    have KO : Hid (Blk v2 (w1.heap.size) 34 [.slice a1.b m.table.buckets.length a1.bc, .slice a1.f m.table.frames.length a1.fc, .slice a1.l m.cache.lines.length a1.lc, .int .i64 m.cache.hand, .int .i64 m.tags.count, .int .i64 m.tags.next, .int .i64 m.tags.round, .slice a1.o m.tags.owns.length a1.oc, .int .i64 m.space]) := zk hv2
    have lO : w1.heap.size < v2.heap.size := KO.out.lt
    clear hv2
    refine (C2.out _ Ev2.out).mono ?_; rintro r w2 ⟨rfl, hb2⟩
    have Y2 := zq (Chg.of_ex hb2)
    have s2 := Y2.out.size
    have Ew2 := zq (Ev2.out.chg Y2.out (by omega))
    clear hb2
    replace KX := zq (KX.out.chg Y2.out (by omega))
    replace KK := zq (KK.out.chg Y2.out (by omega))
    replace KR := zq (KR.out.chg Y2.out (by omega))
    replace KO := zq (KO.out.chg Y2.out (by omega))
    replace HFA := zq (HFA.out.chg Y2.out WHFA.out (by omega))
    replace HFB := zq (HFB.out.chg Y2.out WHFB.out (by omega))
    replace HFC := zq (HFC.out.chg Y2.out WHFC.out (by omega))
    replace HFD := zq (HFD.out.chg Y2.out WHFD.out (by omega))
    obtain ⟨qX0, qX1, qX2, qX3, qX4, qX5, qX6, qX7, qX8⟩ := KX.out.c9
    have jX := KX.out.lt
    obtain ⟨qK0, qK1⟩ := KK.out.c2
    have jK := KK.out.lt
    obtain ⟨qR0, qR1, qR2, qR3, qR4, qR5, qR6, qR7, qR8⟩ := KR.out.c9
    have jR := KR.out.lt
    have zR := KR.out.frozen
    obtain ⟨qO0, qO1, qO2, qO3, qO4, qO5, qO6, qO7, qO8⟩ := KO.out.c9
    have jO := KO.out.lt
    have hne1 : ¬ w1.heap.size = w.heap.size + 1 + 1 := by omega
    have hne2 : ¬ w.heap.size + 1 + 1 = w1.heap.size := by omega
    go_wp2
    exact bodyPost_ret (v := .agg #[.slice a1.b (⟨m.table, m.cache, m.tags, m.space⟩ : MachD).table.buckets.length a1.bc, .slice a1.f (⟨m.table, m.cache, m.tags, m.space⟩ : MachD).table.frames.length a1.fc, .slice a1.l (⟨m.table, m.cache, m.tags, m.space⟩ : MachD).cache.lines.length a1.lc, .int .i64 (⟨m.table, m.cache, m.tags, m.space⟩ : MachD).cache.hand, .int .i64 (⟨m.table, m.cache, m.tags, m.space⟩ : MachD).tags.count, .int .i64 (⟨m.table, m.cache, m.tags, m.space⟩ : MachD).tags.next, .int .i64 (⟨m.table, m.cache, m.tags, m.space⟩ : MachD).tags.round, .slice a1.o (⟨m.table, m.cache, m.tags, m.space⟩ : MachD).tags.owns.length a1.oc, .int .i64 (⟨m.table, m.cache, m.tags, m.space⟩ : MachD).space]) (by simp [results, Tryz.results109, go_sem, *]) rfl
      ⟨a1, rfl, ⟨(Fr.mono (zp HFA.out WHFA.out) (by omega)), (Fr.mono (zp HFB.out WHFB.out) (by omega)), (Fr.mono (zp HFC.out WHFC.out) (by omega)), (Fr.mono (zp HFD.out WHFD.out) (by omega))⟩, (ze Ew2.out)⟩
  simp only [if_true]
  cases dk
  · simp only [Bool.false_eq_true, if_false]
    go_enter Tryz.func109, Tryz.ntmps109
    go_wp2_with fail
    refine name_calls ?_; intro v1 hv1
    have X1 : Hid (Chg (0) (0) w v1) := zx hv1
    have t1 := X1.out.size
    have Ev1 := zq ((Ex.refl w).chg X1.out (by omega))
    have KX : Hid (Blk v1 (w.heap.size) 34 [.slice a.b m.table.buckets.length a.bc, .slice a.f m.table.frames.length a.fc, .slice a.l m.cache.lines.length a.lc, .int .i64 m.cache.hand, .int .i64 m.tags.count, .int .i64 m.tags.next, .int .i64 m.tags.round, .slice a.o m.tags.owns.length a.oc, .int .i64 m.space]) := zk hv1
    have lX : w.heap.size < v1.heap.size := KX.out.lt
    have KK : Hid (Blk v1 (w.heap.size + 1) 43 [.int .i64 k.space, .int .i64 k.page]) := zk hv1
    have lK : w.heap.size + 1 < v1.heap.size := KK.out.lt
    have KR : Hid (Blk v1 (w.heap.size + 1 + 1) 34 [.slice none 0 0, .slice none 0 0, .slice none 0 0, .int .i64 0, .int .i64 0, .int .i64 0, .int .i64 0, .slice none 0 0, .int .i64 0]) := zk hv1
    have lR : w.heap.size + 1 + 1 < v1.heap.size := KR.out.lt
    clear hv1
    refine (C1.out _ Ev1.out).mono ?_; rintro r w1 ⟨a1, rfl, ⟨hfa, hfb, hfc, hfd⟩, hb1⟩
    have Y1 := zq (Chg.of_ex hb1)
    have s1 := Y1.out.size
    have Ew1 := zq (Ev1.out.chg Y1.out (by omega))
    clear hb1
    replace KX := zq (KX.out.chg Y1.out (by omega))
    replace KK := zq (KK.out.chg Y1.out (by omega))
    replace KR := zq (KR.out.chg Y1.out (by omega))
    have HFA := zq hfa; clear hfa
    have WHFA := zq HFA.out.row
    have HFB := zq hfb; clear hfb
    have WHFB := zq HFB.out.row
    have HFC := zq hfc; clear hfc
    have WHFC := zq HFC.out.row
    have HFD := zq hfd; clear hfd
    have WHFD := zq HFD.out.row
    obtain ⟨qX0, qX1, qX2, qX3, qX4, qX5, qX6, qX7, qX8⟩ := KX.out.c9
    have jX := KX.out.lt
    obtain ⟨qK0, qK1⟩ := KK.out.c2
    have jK := KK.out.lt
    obtain ⟨qR0, qR1, qR2, qR3, qR4, qR5, qR6, qR7, qR8⟩ := KR.out.c9
    have jR := KR.out.lt
    have zR := KR.out.frozen
    go_wp2_with fail
    refine name_calls ?_; intro v2 hv2
    have X2 : Hid (Chg (0) (0) w1 v2) := zx hv2
    have t2 := X2.out.size
    have Ev2 := zq (Ew1.out.chg X2.out (by omega))
    clear qX0 qX1 qX2 qX3 qX4 qX5 qX6 qX7 qX8 jX
    clear qK0 qK1 jK
    clear qR0 qR1 qR2 qR3 qR4 qR5 qR6 qR7 qR8 jR zR
    replace KX := zq (KX.out.chg X2.out (by omega))
    replace KK := zq (KK.out.chg X2.out (by omega))
    replace KR := zq (KR.out.chg X2.out (by omega))
    replace HFA := zq (HFA.out.chg X2.out WHFA.out (by omega))
    replace HFB := zq (HFB.out.chg X2.out WHFB.out (by omega))
    replace HFC := zq (HFC.out.chg X2.out WHFC.out (by omega))
    replace HFD := zq (HFD.out.chg X2.out WHFD.out (by omega))
    have KO : Hid (Blk v2 (w1.heap.size) 34 [.slice a1.b m.table.buckets.length a1.bc, .slice a1.f m.table.frames.length a1.fc, .slice a1.l m.cache.lines.length a1.lc, .int .i64 m.cache.hand, .int .i64 m.tags.count, .int .i64 m.tags.next, .int .i64 m.tags.round, .slice a1.o m.tags.owns.length a1.oc, .int .i64 m.space]) := zk hv2
    have lO : w1.heap.size < v2.heap.size := KO.out.lt
    clear hv2
    refine (C2.out _ Ev2.out).mono ?_; rintro r w2 ⟨rfl, hb2⟩
    have Y2 := zq (Chg.of_ex hb2)
    have s2 := Y2.out.size
    have Ew2 := zq (Ev2.out.chg Y2.out (by omega))
    clear hb2
    replace KX := zq (KX.out.chg Y2.out (by omega))
    replace KK := zq (KK.out.chg Y2.out (by omega))
    replace KR := zq (KR.out.chg Y2.out (by omega))
    replace KO := zq (KO.out.chg Y2.out (by omega))
    replace HFA := zq (HFA.out.chg Y2.out WHFA.out (by omega))
    replace HFB := zq (HFB.out.chg Y2.out WHFB.out (by omega))
    replace HFC := zq (HFC.out.chg Y2.out WHFC.out (by omega))
    replace HFD := zq (HFD.out.chg Y2.out WHFD.out (by omega))
    obtain ⟨qX0, qX1, qX2, qX3, qX4, qX5, qX6, qX7, qX8⟩ := KX.out.c9
    have jX := KX.out.lt
    obtain ⟨qK0, qK1⟩ := KK.out.c2
    have jK := KK.out.lt
    obtain ⟨qR0, qR1, qR2, qR3, qR4, qR5, qR6, qR7, qR8⟩ := KR.out.c9
    have jR := KR.out.lt
    have zR := KR.out.frozen
    obtain ⟨qO0, qO1, qO2, qO3, qO4, qO5, qO6, qO7, qO8⟩ := KO.out.c9
    have jO := KO.out.lt
    go_wp2_with fail
    refine name_calls ?_; intro v3 hv3
    have X3 : Hid (Chg (0) (0) w2 v3) := zx hv3
    have t3 := X3.out.size
    have Ev3 := zq (Ew2.out.chg X3.out (by omega))
    clear qX0 qX1 qX2 qX3 qX4 qX5 qX6 qX7 qX8 jX
    clear qK0 qK1 jK
    clear qR0 qR1 qR2 qR3 qR4 qR5 qR6 qR7 qR8 jR zR
    clear qO0 qO1 qO2 qO3 qO4 qO5 qO6 qO7 qO8 jO
    replace KX := zq (KX.out.chg X3.out (by omega))
    replace KK := zq (KK.out.chg X3.out (by omega))
    replace KR := zq (KR.out.chg X3.out (by omega))
    replace KO := zq (KO.out.chg X3.out (by omega))
    replace HFA := zq (HFA.out.chg X3.out WHFA.out (by omega))
    replace HFB := zq (HFB.out.chg X3.out WHFB.out (by omega))
    replace HFC := zq (HFC.out.chg X3.out WHFC.out (by omega))
    replace HFD := zq (HFD.out.chg X3.out WHFD.out (by omega))
    clear hv3
    refine (C3.out _ Ev3.out).mono ?_; rintro r w3 ⟨A3, c3, rfl, hf3, hb3⟩
    have Y3 := zq (Chg.of_ex hb3)
    have s3 := Y3.out.size
    have Ew3 := zq (Ev3.out.chg Y3.out (by omega))
    clear hb3
    replace KX := zq (KX.out.chg Y3.out (by omega))
    replace KK := zq (KK.out.chg Y3.out (by omega))
    replace KR := zq (KR.out.chg Y3.out (by omega))
    replace KO := zq (KO.out.chg Y3.out (by omega))
    replace HFA := zq (HFA.out.chg Y3.out WHFA.out (by omega))
    replace HFB := zq (HFB.out.chg Y3.out WHFB.out (by omega))
    replace HFC := zq (HFC.out.chg Y3.out WHFC.out (by omega))
    replace HFD := zq (HFD.out.chg Y3.out WHFD.out (by omega))
    have HF3 := zq hf3; clear hf3
    have WHF3 := zq HF3.out.row
    obtain ⟨qX0, qX1, qX2, qX3, qX4, qX5, qX6, qX7, qX8⟩ := KX.out.c9
    have jX := KX.out.lt
    obtain ⟨qK0, qK1⟩ := KK.out.c2
    have jK := KK.out.lt
    obtain ⟨qR0, qR1, qR2, qR3, qR4, qR5, qR6, qR7, qR8⟩ := KR.out.c9
    have jR := KR.out.lt
    have zR := KR.out.frozen
    obtain ⟨qO0, qO1, qO2, qO3, qO4, qO5, qO6, qO7, qO8⟩ := KO.out.c9
    have jO := KO.out.lt
    have hne1 : ¬ w1.heap.size = w.heap.size + 1 + 1 := by omega
    have hne2 : ¬ w.heap.size + 1 + 1 = w1.heap.size := by omega
    go_wp2
    exact bodyPost_ret (v := .agg #[.slice a1.b (⟨m.table, m.cache, m.tags, m.space⟩ : MachD).table.buckets.length a1.bc, .slice a1.f (⟨m.table, m.cache, m.tags, m.space⟩ : MachD).table.frames.length a1.fc, .slice a1.l (⟨m.table, m.cache, m.tags, m.space⟩ : MachD).cache.lines.length a1.lc, .int .i64 (⟨m.table, m.cache, m.tags, m.space⟩ : MachD).cache.hand, .int .i64 (⟨m.table, m.cache, m.tags, m.space⟩ : MachD).tags.count, .int .i64 (⟨m.table, m.cache, m.tags, m.space⟩ : MachD).tags.next, .int .i64 (⟨m.table, m.cache, m.tags, m.space⟩ : MachD).tags.round, .slice a1.o (⟨m.table, m.cache, m.tags, m.space⟩ : MachD).tags.owns.length a1.oc, .int .i64 (⟨m.table, m.cache, m.tags, m.space⟩ : MachD).space]) (by simp [results, Tryz.results109, go_sem, *]) rfl
      ⟨a1, rfl, ⟨(Fr.mono (zp HFA.out WHFA.out) (by omega)), (Fr.mono (zp HFB.out WHFB.out) (by omega)), (Fr.mono (zp HFC.out WHFC.out) (by omega)), (Fr.mono (zp HFD.out WHFD.out) (by omega))⟩, (ze Ew3.out)⟩
  · simp only [if_true]
    go_enter Tryz.func109, Tryz.ntmps109
    go_wp2_with fail
    refine name_calls ?_; intro v1 hv1
    have X1 : Hid (Chg (0) (0) w v1) := zx hv1
    have t1 := X1.out.size
    have Ev1 := zq ((Ex.refl w).chg X1.out (by omega))
    have KX : Hid (Blk v1 (w.heap.size) 34 [.slice a.b m.table.buckets.length a.bc, .slice a.f m.table.frames.length a.fc, .slice a.l m.cache.lines.length a.lc, .int .i64 m.cache.hand, .int .i64 m.tags.count, .int .i64 m.tags.next, .int .i64 m.tags.round, .slice a.o m.tags.owns.length a.oc, .int .i64 m.space]) := zk hv1
    have lX : w.heap.size < v1.heap.size := KX.out.lt
    have KK : Hid (Blk v1 (w.heap.size + 1) 43 [.int .i64 k.space, .int .i64 k.page]) := zk hv1
    have lK : w.heap.size + 1 < v1.heap.size := KK.out.lt
    have KR : Hid (Blk v1 (w.heap.size + 1 + 1) 34 [.slice none 0 0, .slice none 0 0, .slice none 0 0, .int .i64 0, .int .i64 0, .int .i64 0, .int .i64 0, .slice none 0 0, .int .i64 0]) := zk hv1
    have lR : w.heap.size + 1 + 1 < v1.heap.size := KR.out.lt
    clear hv1
    refine (C1.out _ Ev1.out).mono ?_; rintro r w1 ⟨a1, rfl, ⟨hfa, hfb, hfc, hfd⟩, hb1⟩
    have Y1 := zq (Chg.of_ex hb1)
    have s1 := Y1.out.size
    have Ew1 := zq (Ev1.out.chg Y1.out (by omega))
    clear hb1
    replace KX := zq (KX.out.chg Y1.out (by omega))
    replace KK := zq (KK.out.chg Y1.out (by omega))
    replace KR := zq (KR.out.chg Y1.out (by omega))
    have HFA := zq hfa; clear hfa
    have WHFA := zq HFA.out.row
    have HFB := zq hfb; clear hfb
    have WHFB := zq HFB.out.row
    have HFC := zq hfc; clear hfc
    have WHFC := zq HFC.out.row
    have HFD := zq hfd; clear hfd
    have WHFD := zq HFD.out.row
    obtain ⟨qX0, qX1, qX2, qX3, qX4, qX5, qX6, qX7, qX8⟩ := KX.out.c9
    have jX := KX.out.lt
    obtain ⟨qK0, qK1⟩ := KK.out.c2
    have jK := KK.out.lt
    obtain ⟨qR0, qR1, qR2, qR3, qR4, qR5, qR6, qR7, qR8⟩ := KR.out.c9
    have jR := KR.out.lt
    have zR := KR.out.frozen
    go_wp2_with fail
    refine name_calls ?_; intro v2 hv2
    have X2 : Hid (Chg (0) (0) w1 v2) := zx hv2
    have t2 := X2.out.size
    have Ev2 := zq (Ew1.out.chg X2.out (by omega))
    clear qX0 qX1 qX2 qX3 qX4 qX5 qX6 qX7 qX8 jX
    clear qK0 qK1 jK
    clear qR0 qR1 qR2 qR3 qR4 qR5 qR6 qR7 qR8 jR zR
    replace KX := zq (KX.out.chg X2.out (by omega))
    replace KK := zq (KK.out.chg X2.out (by omega))
    replace KR := zq (KR.out.chg X2.out (by omega))
    replace HFA := zq (HFA.out.chg X2.out WHFA.out (by omega))
    replace HFB := zq (HFB.out.chg X2.out WHFB.out (by omega))
    replace HFC := zq (HFC.out.chg X2.out WHFC.out (by omega))
    replace HFD := zq (HFD.out.chg X2.out WHFD.out (by omega))
    have KO : Hid (Blk v2 (w1.heap.size) 34 [.slice a1.b m.table.buckets.length a1.bc, .slice a1.f m.table.frames.length a1.fc, .slice a1.l m.cache.lines.length a1.lc, .int .i64 m.cache.hand, .int .i64 m.tags.count, .int .i64 m.tags.next, .int .i64 m.tags.round, .slice a1.o m.tags.owns.length a1.oc, .int .i64 m.space]) := zk hv2
    have lO : w1.heap.size < v2.heap.size := KO.out.lt
    clear hv2
    refine (C2.out _ Ev2.out).mono ?_; rintro r w2 ⟨rfl, hb2⟩
    have Y2 := zq (Chg.of_ex hb2)
    have s2 := Y2.out.size
    have Ew2 := zq (Ev2.out.chg Y2.out (by omega))
    clear hb2
    replace KX := zq (KX.out.chg Y2.out (by omega))
    replace KK := zq (KK.out.chg Y2.out (by omega))
    replace KR := zq (KR.out.chg Y2.out (by omega))
    replace KO := zq (KO.out.chg Y2.out (by omega))
    replace HFA := zq (HFA.out.chg Y2.out WHFA.out (by omega))
    replace HFB := zq (HFB.out.chg Y2.out WHFB.out (by omega))
    replace HFC := zq (HFC.out.chg Y2.out WHFC.out (by omega))
    replace HFD := zq (HFD.out.chg Y2.out WHFD.out (by omega))
    obtain ⟨qX0, qX1, qX2, qX3, qX4, qX5, qX6, qX7, qX8⟩ := KX.out.c9
    have jX := KX.out.lt
    obtain ⟨qK0, qK1⟩ := KK.out.c2
    have jK := KK.out.lt
    obtain ⟨qR0, qR1, qR2, qR3, qR4, qR5, qR6, qR7, qR8⟩ := KR.out.c9
    have jR := KR.out.lt
    have zR := KR.out.frozen
    obtain ⟨qO0, qO1, qO2, qO3, qO4, qO5, qO6, qO7, qO8⟩ := KO.out.c9
    have jO := KO.out.lt
    have zO := KO.out.frozen
    go_wp2_with fail
    refine name_calls ?_; intro v3 hv3
    have X3 : Hid (Chg (0) (0) w2 v3) := zx hv3
    have t3 := X3.out.size
    have Ev3 := zq (Ew2.out.chg X3.out (by omega))
    clear qX0 qX1 qX2 qX3 qX4 qX5 qX6 qX7 qX8 jX
    clear qK0 qK1 jK
    clear qR0 qR1 qR2 qR3 qR4 qR5 qR6 qR7 qR8 jR zR
    clear qO0 qO1 qO2 qO3 qO4 qO5 qO6 qO7 qO8 jO zO
    replace KX := zq (KX.out.chg X3.out (by omega))
    replace KK := zq (KK.out.chg X3.out (by omega))
    replace KR := zq (KR.out.chg X3.out (by omega))
    replace KO := zq (KO.out.chg X3.out (by omega))
    replace HFA := zq (HFA.out.chg X3.out WHFA.out (by omega))
    replace HFB := zq (HFB.out.chg X3.out WHFB.out (by omega))
    replace HFC := zq (HFC.out.chg X3.out WHFC.out (by omega))
    replace HFD := zq (HFD.out.chg X3.out WHFD.out (by omega))
    clear hv3
    refine (C3.out _ Ev3.out).mono ?_; rintro r w3 ⟨A3, c3, rfl, hf3, hb3⟩
    have Y3 := zq (Chg.of_ex hb3)
    have s3 := Y3.out.size
    have Ew3 := zq (Ev3.out.chg Y3.out (by omega))
    clear hb3
    replace KX := zq (KX.out.chg Y3.out (by omega))
    replace KK := zq (KK.out.chg Y3.out (by omega))
    replace KR := zq (KR.out.chg Y3.out (by omega))
    replace KO := zq (KO.out.chg Y3.out (by omega))
    replace HFA := zq (HFA.out.chg Y3.out WHFA.out (by omega))
    replace HFB := zq (HFB.out.chg Y3.out WHFB.out (by omega))
    replace HFC := zq (HFC.out.chg Y3.out WHFC.out (by omega))
    replace HFD := zq (HFD.out.chg Y3.out WHFD.out (by omega))
    have HF3 := zq hf3; clear hf3
    have WHF3 := zq HF3.out.row
    obtain ⟨qX0, qX1, qX2, qX3, qX4, qX5, qX6, qX7, qX8⟩ := KX.out.c9
    have jX := KX.out.lt
    obtain ⟨qK0, qK1⟩ := KK.out.c2
    have jK := KK.out.lt
    obtain ⟨qR0, qR1, qR2, qR3, qR4, qR5, qR6, qR7, qR8⟩ := KR.out.c9
    have jR := KR.out.lt
    have zR := KR.out.frozen
    obtain ⟨qO0, qO1, qO2, qO3, qO4, qO5, qO6, qO7, qO8⟩ := KO.out.c9
    have jO := KO.out.lt
    have zO := KO.out.frozen
    have hne1 : ¬ w1.heap.size = w.heap.size + 1 + 1 := by omega
    have hne2 : ¬ w.heap.size + 1 + 1 = w1.heap.size := by omega
    have hne3 : ¬ w1.heap.size = w3.heap.size := by omega
    have hne4 : ¬ w3.heap.size = w1.heap.size := by omega
    go_wp2
    exact bodyPost_ret (v := .agg #[.slice (⟨a1.b, a1.bc, a1.f, a1.fc, A3, c3, a1.o, a1.oc⟩ : MA).b (⟨m.table, dc, m.tags, m.space⟩ : MachD).table.buckets.length (⟨a1.b, a1.bc, a1.f, a1.fc, A3, c3, a1.o, a1.oc⟩ : MA).bc, .slice (⟨a1.b, a1.bc, a1.f, a1.fc, A3, c3, a1.o, a1.oc⟩ : MA).f (⟨m.table, dc, m.tags, m.space⟩ : MachD).table.frames.length (⟨a1.b, a1.bc, a1.f, a1.fc, A3, c3, a1.o, a1.oc⟩ : MA).fc, .slice (⟨a1.b, a1.bc, a1.f, a1.fc, A3, c3, a1.o, a1.oc⟩ : MA).l (⟨m.table, dc, m.tags, m.space⟩ : MachD).cache.lines.length (⟨a1.b, a1.bc, a1.f, a1.fc, A3, c3, a1.o, a1.oc⟩ : MA).lc, .int .i64 (⟨m.table, dc, m.tags, m.space⟩ : MachD).cache.hand, .int .i64 (⟨m.table, dc, m.tags, m.space⟩ : MachD).tags.count, .int .i64 (⟨m.table, dc, m.tags, m.space⟩ : MachD).tags.next, .int .i64 (⟨m.table, dc, m.tags, m.space⟩ : MachD).tags.round, .slice (⟨a1.b, a1.bc, a1.f, a1.fc, A3, c3, a1.o, a1.oc⟩ : MA).o (⟨m.table, dc, m.tags, m.space⟩ : MachD).tags.owns.length (⟨a1.b, a1.bc, a1.f, a1.fc, A3, c3, a1.o, a1.oc⟩ : MA).oc, .int .i64 (⟨m.table, dc, m.tags, m.space⟩ : MachD).space]) (by simp [results, Tryz.results109, go_sem, *]) rfl
      ⟨⟨a1.b, a1.bc, a1.f, a1.fc, A3, c3, a1.o, a1.oc⟩, rfl, ⟨(Fr.mono (zp HFA.out WHFA.out) (by omega)), (Fr.mono (zp HFB.out WHFB.out) (by omega)), (Fr.mono (zp HF3.out WHF3.out) (by omega)), (Fr.mono (zp HFD.out WHFD.out) (by omega))⟩, (ze Ew3.out)⟩

set_option maxHeartbeats 1000000 in
theorem allowsS_c (x y : Int) (w : World) : Calls Tryz.prog 106 #[.int .i64 x, .int .i64 y] w fun r w' => (∃ q : Bool, r = .returned (.bool q)) ∧ Ex w w' := by
  have C1 := zq (fun w' => rightsS_c x w')
  have C2 := zq (fun w' => rightsS_c y w')
  generalize inB x 8 = p1 at C1
  generalize inB y 8 = p2 at C2
  cases p1
  · go_enter Tryz.func106, Tryz.ntmps106
    go_wp2_with fail
    refine (C1.out _).mono ?_; rintro r wq1 ⟨rfl, rfl⟩
    go_wp2
    go_ret
    exact ⟨⟨_, rfl⟩, Ex.refl _⟩
  cases p2
  · go_enter Tryz.func106, Tryz.ntmps106
    go_wp2_with fail
    refine (C1.out _).mono ?_; rintro r wq1 ⟨rfl, rfl⟩
    go_wp2_with fail
    refine (C2.out _).mono ?_; rintro r wq2 ⟨rfl, rfl⟩
    go_wp2
    go_ret
    exact ⟨⟨_, rfl⟩, Ex.refl _⟩
  go_enter Tryz.func106, Tryz.ntmps106
  go_wp2_with fail
  refine (C1.out _).mono ?_; rintro r wq1 ⟨rfl, rfl⟩
  go_wp2_with fail
  refine (C2.out _).mono ?_; rintro r wq2 ⟨rfl, rfl⟩
  go_wp2
  go_ret
  exact ⟨⟨_, rfl⟩, Ex.refl _⟩

set_option maxHeartbeats 4000000 in
theorem fillS6_c (m : MachD) (a : MA) (p : Int) (i : Nat) (t : Int) (w : World) (h : MachOk m) (hx : HasM w m a) (hc : CapM m a) (hk : CapX a) {f : FrameD} (hf : m.table.frames[i]? = some f) :
    Calls Tryz.prog 105 #[.agg #[.slice a.b m.table.buckets.length a.bc, .slice a.f m.table.frames.length a.fc, .slice a.l m.cache.lines.length a.lc, .int .i64 m.cache.hand, .int .i64 m.tags.count, .int .i64 m.tags.next, .int .i64 m.tags.round, .slice a.o m.tags.owns.length a.oc, .int .i64 m.space], .int .i64 p, .int .i64 i, .int .i64 t] w fun r w' => ∃ a' : MA, r = .returned (.tuple #[.agg #[.slice a'.b (⟨m.table, (fillLine m.cache ⟨true, t, p, i, f.rights, false⟩).1, m.tags, m.space⟩ : MachD).table.buckets.length a'.bc, .slice a'.f (⟨m.table, (fillLine m.cache ⟨true, t, p, i, f.rights, false⟩).1, m.tags, m.space⟩ : MachD).table.frames.length a'.fc, .slice a'.l (⟨m.table, (fillLine m.cache ⟨true, t, p, i, f.rights, false⟩).1, m.tags, m.space⟩ : MachD).cache.lines.length a'.lc, .int .i64 (⟨m.table, (fillLine m.cache ⟨true, t, p, i, f.rights, false⟩).1, m.tags, m.space⟩ : MachD).cache.hand, .int .i64 (⟨m.table, (fillLine m.cache ⟨true, t, p, i, f.rights, false⟩).1, m.tags, m.space⟩ : MachD).tags.count, .int .i64 (⟨m.table, (fillLine m.cache ⟨true, t, p, i, f.rights, false⟩).1, m.tags, m.space⟩ : MachD).tags.next, .int .i64 (⟨m.table, (fillLine m.cache ⟨true, t, p, i, f.rights, false⟩).1, m.tags, m.space⟩ : MachD).tags.round, .slice a'.o (⟨m.table, (fillLine m.cache ⟨true, t, p, i, f.rights, false⟩).1, m.tags, m.space⟩ : MachD).tags.owns.length a'.oc, .int .i64 (⟨m.table, (fillLine m.cache ⟨true, t, p, i, f.rights, false⟩).1, m.tags, m.space⟩ : MachD).space], .int .i64 (fillLine m.cache ⟨true, t, p, i, f.rights, false⟩).2.1]) ∧ FrM w' w.heap.size ⟨m.table, (fillLine m.cache ⟨true, t, p, i, f.rights, false⟩).1, m.tags, m.space⟩ a' ∧ Ex w w' := by
  have hw := h.fewM
  have C1 := zq (fun w' (e : Ex w w') => l6Copy_c m a w' (hx.ex e) hw hc hk)
  have C2 := zq (fun w' (e : Ex w w') => fillLineS_c m.cache ⟨true, t, p, i, f.rights, false⟩ a.l a.lc w' (hx.l.ex e) hw.l hc.l hk.l)
  generalize fillLine m.cache ⟨true, t, p, i, f.rights, false⟩ = q at C2 ⊢
  obtain ⟨fc, at_, ok⟩ := q
  dsimp only at C2 ⊢
  have hi := getElem?_lt hf
  obtain ⟨b2, o2, f', hB, hb2, hfi, k0, k1, k2, k3, k4⟩ := hx.f.frame hi
  obtain rfl : f' = f := by rw [hf] at hfi; injection hfi with hfi; exact hfi.symm
  have PF : Hid (∀ w', Ex w w' → w'.cell? ⟨b2, o2 + i * 5 + 3, none⟩ = some (.int .i64 f'.rights)) := zq (fun w' h => (h.cell hb2).trans k3)
  have hin : (i : Int) < (m.table.frames.length : Int) := by omega
  have hi0 : ¬ (i : Int) < 0 := by omega
  obtain ⟨A, c, B, d, L, ee, O, g⟩ := a
  dsimp only at hB C1 C2 ⊢
  subst hB
  clear hw hx hc hk h hf hfi k0 k1 k2 k3 k4
  go_enter Tryz.func105, Tryz.ntmps105
  go_wp2_with fail
  refine name_calls ?_; intro v1 hv1
  have X1 : Hid (Chg (0) (0) w v1) := zx hv1
  have t1 := X1.out.size
  have Ev1 := zq ((Ex.refl w).chg X1.out (by omega))
  have KX : Hid (Blk v1 (w.heap.size) 34 [.slice A m.table.buckets.length c, .slice (some ⟨b2, o2, none⟩) m.table.frames.length d, .slice L m.cache.lines.length ee, .int .i64 m.cache.hand, .int .i64 m.tags.count, .int .i64 m.tags.next, .int .i64 m.tags.round, .slice O m.tags.owns.length g, .int .i64 m.space]) := zk hv1
  have lX : w.heap.size < v1.heap.size := KX.out.lt
  have KR : Hid (Blk v1 (w.heap.size + 1) 34 [.slice none 0 0, .slice none 0 0, .slice none 0 0, .int .i64 0, .int .i64 0, .int .i64 0, .int .i64 0, .slice none 0 0, .int .i64 0]) := zk hv1
  have lR : w.heap.size + 1 < v1.heap.size := KR.out.lt
  clear hv1
  refine (C1.out _ Ev1.out).mono ?_; rintro r w1 ⟨a1, rfl, ⟨hfa, hfb, hfc, hfd⟩, hb1⟩
  have Y1 := zq (Chg.of_ex hb1)
  have s1 := Y1.out.size
  have Ew1 := zq (Ev1.out.chg Y1.out (by omega))
  clear hb1
  replace KX := zq (KX.out.chg Y1.out (by omega))
  replace KR := zq (KR.out.chg Y1.out (by omega))
  have HFA := zq hfa; clear hfa
  have WHFA := zq HFA.out.row
  have HFB := zq hfb; clear hfb
  have WHFB := zq HFB.out.row
  have HFC := zq hfc; clear hfc
  have WHFC := zq HFC.out.row
  have HFD := zq hfd; clear hfd
  have WHFD := zq HFD.out.row
  obtain ⟨qX0, qX1, qX2, qX3, qX4, qX5, qX6, qX7, qX8⟩ := KX.out.c9
  have jX := KX.out.lt
  obtain ⟨qR0, qR1, qR2, qR3, qR4, qR5, qR6, qR7, qR8⟩ := KR.out.c9
  have jR := KR.out.lt
  have zR := KR.out.frozen
  have pf := PF.out _ Ew1.out
  have hb2' : b2 < w1.heap.size := by omega
  go_wp2_with fail
  refine name_calls ?_; intro v2 hv2
  have X2 : Hid (Chg (0) (0) w1 v2) := zx hv2
  have t2 := X2.out.size
  have Ev2 := zq (Ew1.out.chg X2.out (by omega))
  clear qX0 qX1 qX2 qX3 qX4 qX5 qX6 qX7 qX8 jX
  clear qR0 qR1 qR2 qR3 qR4 qR5 qR6 qR7 qR8 jR zR
  replace KX := zq (KX.out.chg X2.out (by omega))
  replace KR := zq (KR.out.chg X2.out (by omega))
  replace HFA := zq (HFA.out.chg X2.out WHFA.out (by omega))
  replace HFB := zq (HFB.out.chg X2.out WHFB.out (by omega))
  replace HFC := zq (HFC.out.chg X2.out WHFC.out (by omega))
  replace HFD := zq (HFD.out.chg X2.out WHFD.out (by omega))
  have KO : Hid (Blk v2 (w1.heap.size) 34 [.slice a1.b m.table.buckets.length a1.bc, .slice a1.f m.table.frames.length a1.fc, .slice a1.l m.cache.lines.length a1.lc, .int .i64 m.cache.hand, .int .i64 m.tags.count, .int .i64 m.tags.next, .int .i64 m.tags.round, .slice a1.o m.tags.owns.length a1.oc, .int .i64 m.space]) := zk hv2
  have lO : w1.heap.size < v2.heap.size := KO.out.lt
  have KN : Hid (Blk v2 (w1.heap.size + 1) 64 [.bool true, .int .i64 t, .int .i64 p, .int .i64 i, .int .i64 f'.rights, .bool false]) := zk hv2
  have lN : w1.heap.size + 1 < v2.heap.size := KN.out.lt
  clear hv2
  refine (C2.out _ Ev2.out).mono ?_; rintro r w2 ⟨A2, c2, rfl, hf2, hb2⟩
  have Y2 := zq (Chg.of_ex hb2)
  have s2 := Y2.out.size
  have Ew2 := zq (Ev2.out.chg Y2.out (by omega))
  clear hb2
  replace KX := zq (KX.out.chg Y2.out (by omega))
  replace KR := zq (KR.out.chg Y2.out (by omega))
  replace KO := zq (KO.out.chg Y2.out (by omega))
  replace KN := zq (KN.out.chg Y2.out (by omega))
  replace HFA := zq (HFA.out.chg Y2.out WHFA.out (by omega))
  replace HFB := zq (HFB.out.chg Y2.out WHFB.out (by omega))
  replace HFC := zq (HFC.out.chg Y2.out WHFC.out (by omega))
  replace HFD := zq (HFD.out.chg Y2.out WHFD.out (by omega))
  have HF2 := zq hf2; clear hf2
  have WHF2 := zq HF2.out.row
  obtain ⟨qX0, qX1, qX2, qX3, qX4, qX5, qX6, qX7, qX8⟩ := KX.out.c9
  have jX := KX.out.lt
  obtain ⟨qR0, qR1, qR2, qR3, qR4, qR5, qR6, qR7, qR8⟩ := KR.out.c9
  have jR := KR.out.lt
  have zR := KR.out.frozen
  obtain ⟨qO0, qO1, qO2, qO3, qO4, qO5, qO6, qO7, qO8⟩ := KO.out.c9
  have jO := KO.out.lt
  have zO := KO.out.frozen
  obtain ⟨qN0, qN1, qN2, qN3, qN4, qN5⟩ := KN.out.c6
  have jN := KN.out.lt
  clear pf
  have hne1 : ¬ w1.heap.size = w.heap.size + 1 := by omega
  have hne2 : ¬ w.heap.size + 1 = w1.heap.size := by omega
  have hne3 : ¬ w1.heap.size = w2.heap.size := by omega
  have hne4 : ¬ w2.heap.size = w1.heap.size := by omega
  go_wp2
  exact bodyPost_ret (v := .tuple #[.agg #[.slice (⟨a1.b, a1.bc, a1.f, a1.fc, A2, c2, a1.o, a1.oc⟩ : MA).b (⟨m.table, fc, m.tags, m.space⟩ : MachD).table.buckets.length (⟨a1.b, a1.bc, a1.f, a1.fc, A2, c2, a1.o, a1.oc⟩ : MA).bc, .slice (⟨a1.b, a1.bc, a1.f, a1.fc, A2, c2, a1.o, a1.oc⟩ : MA).f (⟨m.table, fc, m.tags, m.space⟩ : MachD).table.frames.length (⟨a1.b, a1.bc, a1.f, a1.fc, A2, c2, a1.o, a1.oc⟩ : MA).fc, .slice (⟨a1.b, a1.bc, a1.f, a1.fc, A2, c2, a1.o, a1.oc⟩ : MA).l (⟨m.table, fc, m.tags, m.space⟩ : MachD).cache.lines.length (⟨a1.b, a1.bc, a1.f, a1.fc, A2, c2, a1.o, a1.oc⟩ : MA).lc, .int .i64 (⟨m.table, fc, m.tags, m.space⟩ : MachD).cache.hand, .int .i64 (⟨m.table, fc, m.tags, m.space⟩ : MachD).tags.count, .int .i64 (⟨m.table, fc, m.tags, m.space⟩ : MachD).tags.next, .int .i64 (⟨m.table, fc, m.tags, m.space⟩ : MachD).tags.round, .slice (⟨a1.b, a1.bc, a1.f, a1.fc, A2, c2, a1.o, a1.oc⟩ : MA).o (⟨m.table, fc, m.tags, m.space⟩ : MachD).tags.owns.length (⟨a1.b, a1.bc, a1.f, a1.fc, A2, c2, a1.o, a1.oc⟩ : MA).oc, .int .i64 (⟨m.table, fc, m.tags, m.space⟩ : MachD).space], .int .i64 at_]) (by simp [results, Tryz.results105, go_sem, *]) rfl
    ⟨⟨a1.b, a1.bc, a1.f, a1.fc, A2, c2, a1.o, a1.oc⟩, rfl, ⟨(Fr.mono (zp HFA.out WHFA.out) (by omega)), (Fr.mono (zp HFB.out WHFB.out) (by omega)), (Fr.mono (zp HF2.out WHF2.out) (by omega)), (Fr.mono (zp HFD.out WHFD.out) (by omega))⟩, (ze Ew2.out)⟩

theorem Blk.put9 {w : World} {g : Nat} {t : TypeId} {a0 a1 a2 a3 a4 a5 a6 a7 a8 b0 b1 b2 b3 b4 b5 b6 b7 b8 : Value} (h : Blk w g t [a0, a1, a2, a3, a4, a5, a6, a7, a8]) :
    Blk (((((((((w.setCell ⟨g, 0, none⟩ b0).setCell ⟨g, 1, none⟩ b1).setCell ⟨g, 2, none⟩ b2).setCell ⟨g, 3, none⟩ b3).setCell ⟨g, 4, none⟩ b4).setCell ⟨g, 5, none⟩ b5).setCell ⟨g, 6, none⟩ b6).setCell ⟨g, 7, none⟩ b7).setCell ⟨g, 8, none⟩ b8) g t [b0, b1, b2, b3, b4, b5, b6, b7, b8] :=
  ((((((((h.set 0 b0).set 1 b1).set 2 b2).set 3 b3).set 4 b4).set 5 b5).set 6 b6).set 7 b7).set 8 b8

/-- What a touch hands back. -/
def Touched (m : MachD) (p : Int) (w : World) (e : Ending) (w' : World) : Prop := ∃ (a : MA) (oc : Int), e = .returned (.tuple #[.agg #[.slice a.b (touchM m p).table.buckets.length a.bc, .slice a.f (touchM m p).table.frames.length a.fc, .slice a.l (touchM m p).cache.lines.length a.lc, .int .i64 (touchM m p).cache.hand, .int .i64 (touchM m p).tags.count, .int .i64 (touchM m p).tags.next, .int .i64 (touchM m p).tags.round, .slice a.o (touchM m p).tags.owns.length a.oc, .int .i64 (touchM m p).space], .int .i64 (touchF m p), .int .i64 oc, .bool true]) ∧ FrM w' w.heap.size (touchM m p) a ∧ (1 ≤ oc ∧ oc ≤ 4) ∧ (oc = 3 ↔ missM m p = true) ∧ Ex w w'

set_option maxHeartbeats 8000000 in
theorem touchS_c (m : MachD) (a : MA) (p n : Int) (w : World) (h : MachOk m) (hx : HasM w m a) (hc : CapM m a) (hk : CapX a) (hp : 0 ≤ p ∧ p < 256) (hn : 0 ≤ n ∧ n < 8) :
    Calls Tryz.prog 92 #[.agg #[.slice a.b m.table.buckets.length a.bc, .slice a.f m.table.frames.length a.fc, .slice a.l m.cache.lines.length a.lc, .int .i64 m.cache.hand, .int .i64 m.tags.count, .int .i64 m.tags.next, .int .i64 m.tags.round, .slice a.o m.tags.owns.length a.oc, .int .i64 m.space], .int .i64 p, .int .i64 n] w (Touched m p w) := by
  have hf := h.fewM
  have C1 := zq (fun w' (e : Ex w w') => machS_c m a w' (hx.ex e) hf hc)
  have C2 := zq (fun w' => l1Page_c p w')
  have C3 := zq (fun w' => rightsS_c n w')
  rw [machV_yes h] at C1
  rw [inB_true.2 hp] at C2
  rw [inB_true.2 hn] at C3
  have C4 := zq (fun w' (e : Ex w w') => tagS_c m a m.space p w' h (hx.ex e))
  have C5 := zq (fun w' (e : Ex w w') => l6Copy_c m a w' (hx.ex e) hf hc hk)
  have C6 := zq (fun w' (e : Ex w w') => l4Find_c m.cache (tagFor m m.space p).1 p a.l a.lc w' (hx.l.ex e) hf.l)
  have C7 := zq (fun w' => keyForS_c m.space p w')
  have C8 := zq (fun w' (e : Ex w w') => l3Find_c m.table a.b a.bc a.f a.fc (keyFor m.space p) w' (hx.b.ex e) (hx.f.ex e) h.1.1 (keyFor_ok h.space hp))
  have C9 := zq (fun r w' => allowsS_c r n w')
  have CF := zq (fun (i : Nat) (f : FrameD) (hfr : m.table.frames[i]? = some f) w' (e : Ex w w') => fillS6_c m a p i (tagFor m m.space p).1 w' h (hx.ex e) hc hk hfr)
  have HT := zq (fun (hm : missM m p = false) => touchF_ok h hm)
  have HX := zq hx
  obtain ⟨A, c, B, d, L, ee, O, g⟩ := a
  dsimp only at C1 C4 C5 C6 C8 CF ⊢
  have HXF : Hid (Rd w B m.table.frames) := zq HX.out.f
  have HXL : Hid (Rd w L m.cache.lines) := zq HX.out.l
  clear hf hx HX hc hk h hp hn
  by_cases h1 : 0 ≤ hitAt m p
  · -- the line is there
    have hms : missM m p = false := by unfold missM; rw [decide_eq_false (by omega)]; rfl
    obtain ⟨i, f, e1, hfi, _⟩ := HT.out hms
    have HQ : Hid (touchM m p = m) := zq (by unfold touchM; rw [if_pos h1])
    have HM3 : Hid ((4 : Int) = 3 ↔ missM m p = true) := zq (by rw [hms]; simp)
    have HM1 : Hid ((1 : Int) = 3 ↔ missM m p = true) := zq (by rw [hms]; simp)
    rcases hit_or m p with ⟨e, _⟩ | ⟨v, x, e, hvx, _⟩
    · omega
    have e2 : x.frame = (i : Int) := by rw [← e1]; unfold touchF; rw [if_pos h1, e, Int.toNat_natCast, getD_of hvx]
    unfold Touched
    rw [HQ.out, e1]
    unfold hitAt at e
    rw [e] at C6
    have hvl := getElem?_lt hvx
    have hil := getElem?_lt hfi
    obtain ⟨b3, o3, x', rfl, hb3, hvx', q0, q1, q2, q3, q4, q5⟩ := HXL.out.line hvl
    obtain rfl : x' = x := by rw [hvx] at hvx'; injection hvx' with q; exact q.symm
    obtain ⟨b2, o2, f', rfl, hb2, hfi', k0, k1, k2, k3, k4⟩ := HXF.out.frame hil
    obtain rfl : f' = f := by rw [hfi] at hfi'; injection hfi' with q; exact q.symm
    have PK : Hid (∀ w', Ex w w' → w'.cell? ⟨b2, o2 + i * 5 + 3, none⟩ = some (.int .i64 f'.rights) ∧ w'.cell? ⟨b3, o3 + v * 6 + 3, none⟩ = some (.int .i64 i)) := zq (fun w' h => ⟨(h.cell hb2).trans k3, (h.cell hb3).trans (by rw [q3, e2])⟩)
    have hv' : (v : Int) < (m.cache.lines.length : Int) := by omega
    have hv0 : ¬ (v : Int) < 0 := by omega
    have hi' : (i : Int) < (m.table.frames.length : Int) := by omega
    have hi0 : ¬ (i : Int) < 0 := by omega
    clear e e1 e2 hms h1 hfi hfi' hvx hvx' q0 q1 q2 q3 q4 q5 k0 k1 k2 k3 k4 HT C7 C8 CF
    generalize tagFor m m.space p = tg at C4 C6
    obtain ⟨tg, tk⟩ := tg
    dsimp only at C4 C6
    go_enter Tryz.func92, Tryz.ntmps92
    go_wp2_with fail
    refine name_calls ?_; intro v1 hv1
    have X1 : Hid (Chg (0) (0) w v1) := zx hv1
    have t1 := X1.out.size
    have Ev1 := zq ((Ex.refl w).chg X1.out (by omega))
    have KX : Hid (Blk v1 (w.heap.size) 34 [.slice A m.table.buckets.length c, .slice (some ⟨b2, o2, none⟩) m.table.frames.length d, .slice (some ⟨b3, o3, none⟩) m.cache.lines.length ee, .int .i64 m.cache.hand, .int .i64 m.tags.count, .int .i64 m.tags.next, .int .i64 m.tags.round, .slice O m.tags.owns.length g, .int .i64 m.space]) := zk hv1
    have lX : w.heap.size < v1.heap.size := KX.out.lt
    have KR : Hid (Blk v1 (w.heap.size + 1) 34 [.slice none 0 0, .slice none 0 0, .slice none 0 0, .int .i64 0, .int .i64 0, .int .i64 0, .int .i64 0, .slice none 0 0, .int .i64 0]) := zk hv1
    have lR : w.heap.size + 1 < v1.heap.size := KR.out.lt
    clear hv1
    refine (C1.out _ Ev1.out).mono ?_; rintro r w1 ⟨rfl, hb1⟩
    have Y1 := zq (Chg.of_ex hb1)
    have s1 := Y1.out.size
    have Ew1 := zq (Ev1.out.chg Y1.out (by omega))
    clear hb1
    replace KX := zq (KX.out.chg Y1.out (by omega))
    replace KR := zq (KR.out.chg Y1.out (by omega))
    obtain ⟨qX0, qX1, qX2, qX3, qX4, qX5, qX6, qX7, qX8⟩ := KX.out.c9
    have jX := KX.out.lt
    obtain ⟨qR0, qR1, qR2, qR3, qR4, qR5, qR6, qR7, qR8⟩ := KR.out.c9
    have jR := KR.out.lt
    have zR := KR.out.frozen
    go_wp2_with fail
    refine (C2.out _).mono ?_; rintro r wq2 ⟨rfl, rfl⟩
    go_wp2_with fail
    refine (C3.out _).mono ?_; rintro r wq3 ⟨rfl, rfl⟩
    go_wp2_with fail
    refine name_calls ?_; intro v4 hv4
    have X4 : Hid (Chg (0) (0) w1 v4) := zx hv4
    have t4 := X4.out.size
    have Ev4 := zq (Ew1.out.chg X4.out (by omega))
    clear qX0 qX1 qX2 qX3 qX4 qX5 qX6 qX7 qX8 jX
    clear qR0 qR1 qR2 qR3 qR4 qR5 qR6 qR7 qR8 jR zR
    replace KX := zq (KX.out.chg X4.out (by omega))
    replace KR := zq (KR.out.chg X4.out (by omega))
    clear hv4
    refine (C4.out _ Ev4.out).mono ?_; rintro r w4 ⟨rfl, hb4⟩
    have Y4 := zq (Chg.of_ex hb4)
    have s4 := Y4.out.size
    have Ew4 := zq (Ev4.out.chg Y4.out (by omega))
    clear hb4
    replace KX := zq (KX.out.chg Y4.out (by omega))
    replace KR := zq (KR.out.chg Y4.out (by omega))
    obtain ⟨qX0, qX1, qX2, qX3, qX4, qX5, qX6, qX7, qX8⟩ := KX.out.c9
    have jX := KX.out.lt
    obtain ⟨qR0, qR1, qR2, qR3, qR4, qR5, qR6, qR7, qR8⟩ := KR.out.c9
    have jR := KR.out.lt
    have zR := KR.out.frozen
    go_wp2_with fail
    refine name_calls ?_; intro v5 hv5
    have X5 : Hid (Chg (0) (0) w4 v5) := zx hv5
    have t5 := X5.out.size
    have Ev5 := zq (Ew4.out.chg X5.out (by omega))
    clear qX0 qX1 qX2 qX3 qX4 qX5 qX6 qX7 qX8 jX
    clear qR0 qR1 qR2 qR3 qR4 qR5 qR6 qR7 qR8 jR zR
    replace KX := zq (KX.out.chg X5.out (by omega))
    replace KR := zq (KR.out.chg X5.out (by omega))
    clear hv5
    refine (C5.out _ Ev5.out).mono ?_; rintro r w5 ⟨a5, rfl, ⟨hfa, hfb, hfc, hfd⟩, hb5⟩
    have Y5 := zq (Chg.of_ex hb5)
    have s5 := Y5.out.size
    have Ew5 := zq (Ev5.out.chg Y5.out (by omega))
    clear hb5
    replace KX := zq (KX.out.chg Y5.out (by omega))
    replace KR := zq (KR.out.chg Y5.out (by omega))
    have HFA := zq hfa; clear hfa
    have WHFA := zq HFA.out.row
    have HFB := zq hfb; clear hfb
    have WHFB := zq HFB.out.row
    have HFC := zq hfc; clear hfc
    have WHFC := zq HFC.out.row
    have HFD := zq hfd; clear hfd
    have WHFD := zq HFD.out.row
    obtain ⟨qX0, qX1, qX2, qX3, qX4, qX5, qX6, qX7, qX8⟩ := KX.out.c9
    have jX := KX.out.lt
    obtain ⟨qR0, qR1, qR2, qR3, qR4, qR5, qR6, qR7, qR8⟩ := KR.out.c9
    have jR := KR.out.lt
    have zR := KR.out.frozen
    go_wp2_with fail
    refine name_calls ?_; intro v6 hv6
    have X6 : Hid (Chg (0) (0) w5 v6) := zx hv6
    have t6 := X6.out.size
    have Ev6 := zq (Ew5.out.chg X6.out (by omega))
    clear qX0 qX1 qX2 qX3 qX4 qX5 qX6 qX7 qX8 jX
    clear qR0 qR1 qR2 qR3 qR4 qR5 qR6 qR7 qR8 jR zR
    replace KX := zq (KX.out.chg X6.out (by omega))
    replace KR := zq (KR.out.chg X6.out (by omega))
    replace HFA := zq (HFA.out.chg X6.out WHFA.out (by omega))
    replace HFB := zq (HFB.out.chg X6.out WHFB.out (by omega))
    replace HFC := zq (HFC.out.chg X6.out WHFC.out (by omega))
    replace HFD := zq (HFD.out.chg X6.out WHFD.out (by omega))
    have KO : Hid (Blk v6 (w5.heap.size) 34 [.slice a5.b m.table.buckets.length a5.bc, .slice a5.f m.table.frames.length a5.fc, .slice a5.l m.cache.lines.length a5.lc, .int .i64 m.cache.hand, .int .i64 m.tags.count, .int .i64 m.tags.next, .int .i64 m.tags.round, .slice a5.o m.tags.owns.length a5.oc, .int .i64 m.space]) := zk hv6
    have lO : w5.heap.size < v6.heap.size := KO.out.lt
    clear hv6
    refine (C6.out _ Ev6.out).mono ?_; rintro r w6 ⟨rfl, hb6⟩
    have Y6 := zq (Chg.of_ex hb6)
    have s6 := Y6.out.size
    have Ew6 := zq (Ev6.out.chg Y6.out (by omega))
    clear hb6
    replace KX := zq (KX.out.chg Y6.out (by omega))
    replace KR := zq (KR.out.chg Y6.out (by omega))
    replace KO := zq (KO.out.chg Y6.out (by omega))
    replace HFA := zq (HFA.out.chg Y6.out WHFA.out (by omega))
    replace HFB := zq (HFB.out.chg Y6.out WHFB.out (by omega))
    replace HFC := zq (HFC.out.chg Y6.out WHFC.out (by omega))
    replace HFD := zq (HFD.out.chg Y6.out WHFD.out (by omega))
    obtain ⟨qX0, qX1, qX2, qX3, qX4, qX5, qX6, qX7, qX8⟩ := KX.out.c9
    have jX := KX.out.lt
    obtain ⟨qR0, qR1, qR2, qR3, qR4, qR5, qR6, qR7, qR8⟩ := KR.out.c9
    have jR := KR.out.lt
    have zR := KR.out.frozen
    obtain ⟨qO0, qO1, qO2, qO3, qO4, qO5, qO6, qO7, qO8⟩ := KO.out.c9
    have jO := KO.out.lt
    have zO := KO.out.frozen
    have hne1 : ¬ w5.heap.size = w.heap.size + 1 := by omega
    have hne2 : ¬ w.heap.size + 1 = w5.heap.size := by omega
    obtain ⟨pk, pl⟩ := PK.out _ Ew6.out
    have hb2' : b2 < w6.heap.size := by omega
    have hb3' : b3 < w6.heap.size := by omega
    go_wp2_with fail
    refine name_calls ?_; intro v9 hv9
    have X9 : Hid (Chg (0) (0) w6 v9) := zx hv9
    have t9 := X9.out.size
    have Ev9 := zq (Ew6.out.chg X9.out (by omega))
    clear qX0 qX1 qX2 qX3 qX4 qX5 qX6 qX7 qX8 jX
    clear qR0 qR1 qR2 qR3 qR4 qR5 qR6 qR7 qR8 jR zR
    clear qO0 qO1 qO2 qO3 qO4 qO5 qO6 qO7 qO8 jO zO
    replace KX := zq (KX.out.chg X9.out (by omega))
    replace KR := zq (KR.out.chg X9.out (by omega))
    replace KO := zq (KO.out.chg X9.out (by omega))
    replace HFA := zq (HFA.out.chg X9.out WHFA.out (by omega))
    replace HFB := zq (HFB.out.chg X9.out WHFB.out (by omega))
    replace HFC := zq (HFC.out.chg X9.out WHFC.out (by omega))
    replace HFD := zq (HFD.out.chg X9.out WHFD.out (by omega))
    clear hv9
    refine (C9.out _ _).mono ?_; rintro r w9 ⟨⟨al, rfl⟩, hb9⟩
    have Y9 := zq (Chg.of_ex hb9)
    have s9 := Y9.out.size
    have Ew9 := zq (Ev9.out.chg Y9.out (by omega))
    clear hb9
    replace KX := zq (KX.out.chg Y9.out (by omega))
    replace KR := zq (KR.out.chg Y9.out (by omega))
    replace KO := zq (KO.out.chg Y9.out (by omega))
    replace HFA := zq (HFA.out.chg Y9.out WHFA.out (by omega))
    replace HFB := zq (HFB.out.chg Y9.out WHFB.out (by omega))
    replace HFC := zq (HFC.out.chg Y9.out WHFC.out (by omega))
    replace HFD := zq (HFD.out.chg Y9.out WHFD.out (by omega))
    obtain ⟨qX0, qX1, qX2, qX3, qX4, qX5, qX6, qX7, qX8⟩ := KX.out.c9
    have jX := KX.out.lt
    obtain ⟨qR0, qR1, qR2, qR3, qR4, qR5, qR6, qR7, qR8⟩ := KR.out.c9
    have jR := KR.out.lt
    have zR := KR.out.frozen
    obtain ⟨qO0, qO1, qO2, qO3, qO4, qO5, qO6, qO7, qO8⟩ := KO.out.c9
    have jO := KO.out.lt
    have zO := KO.out.frozen
    cases al
    · go_wp2
      exact bodyPost_ret (v := .tuple #[.agg #[.slice a5.b m.table.buckets.length a5.bc, .slice a5.f m.table.frames.length a5.fc, .slice a5.l m.cache.lines.length a5.lc, .int .i64 m.cache.hand, .int .i64 m.tags.count, .int .i64 m.tags.next, .int .i64 m.tags.round, .slice a5.o m.tags.owns.length a5.oc, .int .i64 m.space], .int .i64 i, .int .i64 4, .bool true]) (by simp [results, Tryz.results92, go_sem, *]) rfl
        ⟨a5, 4, rfl, ⟨(Fr.mono (zp HFA.out WHFA.out) (by omega)), (Fr.mono (zp HFB.out WHFB.out) (by omega)), (Fr.mono (zp HFC.out WHFC.out) (by omega)), (Fr.mono (zp HFD.out WHFD.out) (by omega))⟩, by omega, HM3.out, (ze Ew9.out)⟩
    · go_wp2
      exact bodyPost_ret (v := .tuple #[.agg #[.slice a5.b m.table.buckets.length a5.bc, .slice a5.f m.table.frames.length a5.fc, .slice a5.l m.cache.lines.length a5.lc, .int .i64 m.cache.hand, .int .i64 m.tags.count, .int .i64 m.tags.next, .int .i64 m.tags.round, .slice a5.o m.tags.owns.length a5.oc, .int .i64 m.space], .int .i64 i, .int .i64 1, .bool true]) (by simp [results, Tryz.results92, go_sem, *]) rfl
        ⟨a5, 1, rfl, ⟨(Fr.mono (zp HFA.out WHFA.out) (by omega)), (Fr.mono (zp HFB.out WHFB.out) (by omega)), (Fr.mono (zp HFC.out WHFC.out) (by omega)), (Fr.mono (zp HFD.out WHFD.out) (by omega))⟩, by omega, HM1.out, (ze Ew9.out)⟩
  by_cases h2 : findF m.table (keyFor m.space p) < 0
  · -- the page is not there
    have HQ : Hid (touchM m p = m) := zq (by unfold touchM; rw [if_neg h1, if_pos h2])
    have HQF : Hid (touchF m p = 0) := zq (by unfold touchF; rw [if_neg h1, if_pos h2])
    have HM3 : Hid (missM m p = true) := zq (by unfold missM; rw [decide_eq_true h2, decide_eq_true (show hitAt m p < 0 by omega)]; rfl)
    have e : placeOf m.cache.lines (tagFor m m.space p).1 p = -1 := by
      rcases hit_or m p with ⟨e, _⟩ | ⟨v, x, e, hvx, _⟩
      · exact e
      · omega
    unfold Touched
    rw [HQ.out, HQF.out]
    rw [e] at C6
    clear e h1 HT CF C9 HXF HXL
    generalize findF m.table (keyFor m.space p) = ff at h2 C8
    have h2' : ¬ 0 ≤ ff := by omega
    generalize keyFor m.space p = kf at C7 C8
    generalize tagFor m m.space p = tg at C4 C6
    obtain ⟨tg, tk⟩ := tg
    dsimp only at C4 C6
    go_enter Tryz.func92, Tryz.ntmps92
    go_wp2_with fail
    refine name_calls ?_; intro v1 hv1
    have X1 : Hid (Chg (0) (0) w v1) := zx hv1
    have t1 := X1.out.size
    have Ev1 := zq ((Ex.refl w).chg X1.out (by omega))
    have KX : Hid (Blk v1 (w.heap.size) 34 [.slice A m.table.buckets.length c, .slice B m.table.frames.length d, .slice L m.cache.lines.length ee, .int .i64 m.cache.hand, .int .i64 m.tags.count, .int .i64 m.tags.next, .int .i64 m.tags.round, .slice O m.tags.owns.length g, .int .i64 m.space]) := zk hv1
    have lX : w.heap.size < v1.heap.size := KX.out.lt
    have KR : Hid (Blk v1 (w.heap.size + 1) 34 [.slice none 0 0, .slice none 0 0, .slice none 0 0, .int .i64 0, .int .i64 0, .int .i64 0, .int .i64 0, .slice none 0 0, .int .i64 0]) := zk hv1
    have lR : w.heap.size + 1 < v1.heap.size := KR.out.lt
    clear hv1
    refine (C1.out _ Ev1.out).mono ?_; rintro r w1 ⟨rfl, hb1⟩
    have Y1 := zq (Chg.of_ex hb1)
    have s1 := Y1.out.size
    have Ew1 := zq (Ev1.out.chg Y1.out (by omega))
    clear hb1
    replace KX := zq (KX.out.chg Y1.out (by omega))
    replace KR := zq (KR.out.chg Y1.out (by omega))
    obtain ⟨qX0, qX1, qX2, qX3, qX4, qX5, qX6, qX7, qX8⟩ := KX.out.c9
    have jX := KX.out.lt
    obtain ⟨qR0, qR1, qR2, qR3, qR4, qR5, qR6, qR7, qR8⟩ := KR.out.c9
    have jR := KR.out.lt
    have zR := KR.out.frozen
    go_wp2_with fail
    refine (C2.out _).mono ?_; rintro r wq2 ⟨rfl, rfl⟩
    go_wp2_with fail
    refine (C3.out _).mono ?_; rintro r wq3 ⟨rfl, rfl⟩
    go_wp2_with fail
    refine name_calls ?_; intro v4 hv4
    have X4 : Hid (Chg (0) (0) w1 v4) := zx hv4
    have t4 := X4.out.size
    have Ev4 := zq (Ew1.out.chg X4.out (by omega))
    clear qX0 qX1 qX2 qX3 qX4 qX5 qX6 qX7 qX8 jX
    clear qR0 qR1 qR2 qR3 qR4 qR5 qR6 qR7 qR8 jR zR
    replace KX := zq (KX.out.chg X4.out (by omega))
    replace KR := zq (KR.out.chg X4.out (by omega))
    clear hv4
    refine (C4.out _ Ev4.out).mono ?_; rintro r w4 ⟨rfl, hb4⟩
    have Y4 := zq (Chg.of_ex hb4)
    have s4 := Y4.out.size
    have Ew4 := zq (Ev4.out.chg Y4.out (by omega))
    clear hb4
    replace KX := zq (KX.out.chg Y4.out (by omega))
    replace KR := zq (KR.out.chg Y4.out (by omega))
    obtain ⟨qX0, qX1, qX2, qX3, qX4, qX5, qX6, qX7, qX8⟩ := KX.out.c9
    have jX := KX.out.lt
    obtain ⟨qR0, qR1, qR2, qR3, qR4, qR5, qR6, qR7, qR8⟩ := KR.out.c9
    have jR := KR.out.lt
    have zR := KR.out.frozen
    go_wp2_with fail
    refine name_calls ?_; intro v5 hv5
    have X5 : Hid (Chg (0) (0) w4 v5) := zx hv5
    have t5 := X5.out.size
    have Ev5 := zq (Ew4.out.chg X5.out (by omega))
    clear qX0 qX1 qX2 qX3 qX4 qX5 qX6 qX7 qX8 jX
    clear qR0 qR1 qR2 qR3 qR4 qR5 qR6 qR7 qR8 jR zR
    replace KX := zq (KX.out.chg X5.out (by omega))
    replace KR := zq (KR.out.chg X5.out (by omega))
    clear hv5
    refine (C5.out _ Ev5.out).mono ?_; rintro r w5 ⟨a5, rfl, ⟨hfa, hfb, hfc, hfd⟩, hb5⟩
    have Y5 := zq (Chg.of_ex hb5)
    have s5 := Y5.out.size
    have Ew5 := zq (Ev5.out.chg Y5.out (by omega))
    clear hb5
    replace KX := zq (KX.out.chg Y5.out (by omega))
    replace KR := zq (KR.out.chg Y5.out (by omega))
    have HFA := zq hfa; clear hfa
    have WHFA := zq HFA.out.row
    have HFB := zq hfb; clear hfb
    have WHFB := zq HFB.out.row
    have HFC := zq hfc; clear hfc
    have WHFC := zq HFC.out.row
    have HFD := zq hfd; clear hfd
    have WHFD := zq HFD.out.row
    obtain ⟨qX0, qX1, qX2, qX3, qX4, qX5, qX6, qX7, qX8⟩ := KX.out.c9
    have jX := KX.out.lt
    obtain ⟨qR0, qR1, qR2, qR3, qR4, qR5, qR6, qR7, qR8⟩ := KR.out.c9
    have jR := KR.out.lt
    have zR := KR.out.frozen
    go_wp2_with fail
    refine name_calls ?_; intro v6 hv6
    have X6 : Hid (Chg (0) (0) w5 v6) := zx hv6
    have t6 := X6.out.size
    have Ev6 := zq (Ew5.out.chg X6.out (by omega))
    clear qX0 qX1 qX2 qX3 qX4 qX5 qX6 qX7 qX8 jX
    clear qR0 qR1 qR2 qR3 qR4 qR5 qR6 qR7 qR8 jR zR
    replace KX := zq (KX.out.chg X6.out (by omega))
    replace KR := zq (KR.out.chg X6.out (by omega))
    replace HFA := zq (HFA.out.chg X6.out WHFA.out (by omega))
    replace HFB := zq (HFB.out.chg X6.out WHFB.out (by omega))
    replace HFC := zq (HFC.out.chg X6.out WHFC.out (by omega))
    replace HFD := zq (HFD.out.chg X6.out WHFD.out (by omega))
    have KO : Hid (Blk v6 (w5.heap.size) 34 [.slice a5.b m.table.buckets.length a5.bc, .slice a5.f m.table.frames.length a5.fc, .slice a5.l m.cache.lines.length a5.lc, .int .i64 m.cache.hand, .int .i64 m.tags.count, .int .i64 m.tags.next, .int .i64 m.tags.round, .slice a5.o m.tags.owns.length a5.oc, .int .i64 m.space]) := zk hv6
    have lO : w5.heap.size < v6.heap.size := KO.out.lt
    clear hv6
    refine (C6.out _ Ev6.out).mono ?_; rintro r w6 ⟨rfl, hb6⟩
    have Y6 := zq (Chg.of_ex hb6)
    have s6 := Y6.out.size
    have Ew6 := zq (Ev6.out.chg Y6.out (by omega))
    clear hb6
    replace KX := zq (KX.out.chg Y6.out (by omega))
    replace KR := zq (KR.out.chg Y6.out (by omega))
    replace KO := zq (KO.out.chg Y6.out (by omega))
    replace HFA := zq (HFA.out.chg Y6.out WHFA.out (by omega))
    replace HFB := zq (HFB.out.chg Y6.out WHFB.out (by omega))
    replace HFC := zq (HFC.out.chg Y6.out WHFC.out (by omega))
    replace HFD := zq (HFD.out.chg Y6.out WHFD.out (by omega))
    obtain ⟨qX0, qX1, qX2, qX3, qX4, qX5, qX6, qX7, qX8⟩ := KX.out.c9
    have jX := KX.out.lt
    obtain ⟨qR0, qR1, qR2, qR3, qR4, qR5, qR6, qR7, qR8⟩ := KR.out.c9
    have jR := KR.out.lt
    have zR := KR.out.frozen
    obtain ⟨qO0, qO1, qO2, qO3, qO4, qO5, qO6, qO7, qO8⟩ := KO.out.c9
    have jO := KO.out.lt
    have zO := KO.out.frozen
    have hne1 : ¬ w5.heap.size = w.heap.size + 1 := by omega
    have hne2 : ¬ w.heap.size + 1 = w5.heap.size := by omega
    have FK : Hid (∀ w', Ex w6 w' → (w'.cell? ⟨w.heap.size, 0, none⟩ = some (.slice A m.table.buckets.length c) ∧ w'.cell? ⟨w.heap.size, 1, none⟩ = some (.slice B m.table.frames.length d) ∧ w'.cell? ⟨w.heap.size, 8, none⟩ = some (.int .i64 m.space))) := zq (fun w' h => ⟨(KX.out.ex h).c9.1, (KX.out.ex h).c9.2.1, (KX.out.ex h).c9.2.2.2.2.2.2.2.2⟩)
    go_wp2_with fail
    go_region_held3 (fun w' => (w'.cell? ⟨w.heap.size, 0, none⟩ = some (.slice A m.table.buckets.length c) ∧ w'.cell? ⟨w.heap.size, 1, none⟩ = some (.slice B m.table.frames.length d) ∧ w'.cell? ⟨w.heap.size, 8, none⟩ = some (.int .i64 m.space))) (first | (refine FK.out _ ?_; with_reducible (first | exact Ex.refl _ | exact (Ex.refl _).drew | exact hE1 | exact hE2)) | go_keep) (first
      | (go_at_call 80; (with_reducible refine (C7.out _).mono ?_); rintro r w7 ⟨rfl, hb7⟩; have hE1 := Ex.trans (Ex.refl _).drew hb7)
      | (go_at_call 79; (with_reducible refine (C8.out _ ?_).mono ?_); (exact Ew6.out.trans hE1); rintro r w8 ⟨⟨sp, rfl⟩, hb8⟩; have hE2 := Ex.trans hE1 hb8))
    rename_i hHeld
    have Y8 := zq (Chg.of_ex hE2)
    clear hHeld hE1 hE2 hb7 hb8 FK
    have s8 := Y8.out.size
    have Ew8 := zq (Ew6.out.chg Y8.out (by omega))
    clear qX0 qX1 qX2 qX3 qX4 qX5 qX6 qX7 qX8 jX
    clear qR0 qR1 qR2 qR3 qR4 qR5 qR6 qR7 qR8 jR zR
    clear qO0 qO1 qO2 qO3 qO4 qO5 qO6 qO7 qO8 jO zO
    replace KX := zq (KX.out.chg Y8.out (by omega))
    replace KR := zq (KR.out.chg Y8.out (by omega))
    replace KO := zq (KO.out.chg Y8.out (by omega))
    replace HFA := zq (HFA.out.chg Y8.out WHFA.out (by omega))
    replace HFB := zq (HFB.out.chg Y8.out WHFB.out (by omega))
    replace HFC := zq (HFC.out.chg Y8.out WHFC.out (by omega))
    replace HFD := zq (HFD.out.chg Y8.out WHFD.out (by omega))
    obtain ⟨qX0, qX1, qX2, qX3, qX4, qX5, qX6, qX7, qX8⟩ := KX.out.c9
    have jX := KX.out.lt
    obtain ⟨qR0, qR1, qR2, qR3, qR4, qR5, qR6, qR7, qR8⟩ := KR.out.c9
    have jR := KR.out.lt
    have zR := KR.out.frozen
    obtain ⟨qO0, qO1, qO2, qO3, qO4, qO5, qO6, qO7, qO8⟩ := KO.out.c9
    have jO := KO.out.lt
    have zO := KO.out.frozen
    go_wp2
    exact bodyPost_ret (v := .tuple #[.agg #[.slice a5.b m.table.buckets.length a5.bc, .slice a5.f m.table.frames.length a5.fc, .slice a5.l m.cache.lines.length a5.lc, .int .i64 m.cache.hand, .int .i64 m.tags.count, .int .i64 m.tags.next, .int .i64 m.tags.round, .slice a5.o m.tags.owns.length a5.oc, .int .i64 m.space], .int .i64 0, .int .i64 3, .bool true]) (by simp [results, Tryz.results92, go_sem, *]) rfl
      ⟨a5, 3, rfl, ⟨(Fr.mono (zp HFA.out WHFA.out) (by omega)), (Fr.mono (zp HFB.out WHFB.out) (by omega)), (Fr.mono (zp HFC.out WHFC.out) (by omega)), (Fr.mono (zp HFD.out WHFD.out) (by omega))⟩, by omega, ⟨fun _ => HM3.out, fun _ => rfl⟩, (ze Ew8.out)⟩
  · -- the line is filled in
    have hms : missM m p = false := missM_no h2
    have HQ : Hid (touchM m p = ⟨m.table, (fillLine m.cache (newL m p)).1, m.tags, m.space⟩) := zq (by unfold touchM; rw [if_neg h1, if_neg h2])
    have HM3 : Hid ((4 : Int) = 3 ↔ missM m p = true) := zq (by rw [hms]; simp)
    have HM1 : Hid ((2 : Int) = 3 ↔ missM m p = true) := zq (by rw [hms]; simp)
    have e : placeOf m.cache.lines (tagFor m m.space p).1 p = -1 := by
      rcases hit_or m p with ⟨e, _⟩ | ⟨v, x, e, hvx, _⟩
      · exact e
      · omega
    obtain ⟨i, f, e1, hfi, _⟩ := HT.out hms
    have e3 : findF m.table (keyFor m.space p) = (i : Int) := by rw [← e1]; unfold touchF; rw [if_neg h1, if_neg h2]
    have HL : newL m p = ⟨true, (tagFor m m.space p).1, p, (i : Int), f.rights, false⟩ := by unfold newL; rw [e3, Int.toNat_natCast, getD_of hfi]
    have C10 := zq (CF.out i f hfi)
    unfold Touched
    rw [HQ.out, HL, e1]
    rw [e] at C6
    rw [e3] at C8
    have hil := getElem?_lt hfi
    obtain ⟨b2, o2, f', rfl, hb2, hfi', k0, k1, k2, k3, k4⟩ := HXF.out.frame hil
    obtain rfl : f' = f := by rw [hfi] at hfi'; injection hfi' with q; exact q.symm
    have PK : Hid (∀ w', Ex w w' → w'.cell? ⟨b2, o2 + i * 5 + 3, none⟩ = some (.int .i64 f'.rights)) := zq (fun w' h => (h.cell hb2).trans k3)
    have hi' : (i : Int) < (m.table.frames.length : Int) := by omega
    have hi0 : ¬ (i : Int) < 0 := by omega
    clear e e1 e3 HL h1 h2 hms hfi hfi' k0 k1 k2 k3 k4 HT CF HXF HXL HQ
    generalize keyFor m.space p = kf at C7 C8
    generalize tagFor m m.space p = tg at C4 C6 C10 ⊢
    obtain ⟨tg, tk⟩ := tg
    dsimp only at C4 C6 C10 ⊢
    generalize fillLine m.cache ⟨true, tg, p, (i : Int), f'.rights, false⟩ = fl at C10 ⊢
    obtain ⟨fc, at_, fk⟩ := fl
    dsimp only at C10 ⊢
    go_enter Tryz.func92, Tryz.ntmps92
    go_wp2_with fail
    refine name_calls ?_; intro v1 hv1
    have X1 : Hid (Chg (0) (0) w v1) := zx hv1
    have t1 := X1.out.size
    have Ev1 := zq ((Ex.refl w).chg X1.out (by omega))
    have KX : Hid (Blk v1 (w.heap.size) 34 [.slice A m.table.buckets.length c, .slice (some ⟨b2, o2, none⟩) m.table.frames.length d, .slice L m.cache.lines.length ee, .int .i64 m.cache.hand, .int .i64 m.tags.count, .int .i64 m.tags.next, .int .i64 m.tags.round, .slice O m.tags.owns.length g, .int .i64 m.space]) := zk hv1
    have lX : w.heap.size < v1.heap.size := KX.out.lt
    have KR : Hid (Blk v1 (w.heap.size + 1) 34 [.slice none 0 0, .slice none 0 0, .slice none 0 0, .int .i64 0, .int .i64 0, .int .i64 0, .int .i64 0, .slice none 0 0, .int .i64 0]) := zk hv1
    have lR : w.heap.size + 1 < v1.heap.size := KR.out.lt
    clear hv1
    refine (C1.out _ Ev1.out).mono ?_; rintro r w1 ⟨rfl, hb1⟩
    have Y1 := zq (Chg.of_ex hb1)
    have s1 := Y1.out.size
    have Ew1 := zq (Ev1.out.chg Y1.out (by omega))
    clear hb1
    replace KX := zq (KX.out.chg Y1.out (by omega))
    replace KR := zq (KR.out.chg Y1.out (by omega))
    obtain ⟨qX0, qX1, qX2, qX3, qX4, qX5, qX6, qX7, qX8⟩ := KX.out.c9
    have jX := KX.out.lt
    obtain ⟨qR0, qR1, qR2, qR3, qR4, qR5, qR6, qR7, qR8⟩ := KR.out.c9
    have jR := KR.out.lt
    have zR := KR.out.frozen
    go_wp2_with fail
    refine (C2.out _).mono ?_; rintro r wq2 ⟨rfl, rfl⟩
    go_wp2_with fail
    refine (C3.out _).mono ?_; rintro r wq3 ⟨rfl, rfl⟩
    go_wp2_with fail
    refine name_calls ?_; intro v4 hv4
    have X4 : Hid (Chg (0) (0) w1 v4) := zx hv4
    have t4 := X4.out.size
    have Ev4 := zq (Ew1.out.chg X4.out (by omega))
    clear qX0 qX1 qX2 qX3 qX4 qX5 qX6 qX7 qX8 jX
    clear qR0 qR1 qR2 qR3 qR4 qR5 qR6 qR7 qR8 jR zR
    replace KX := zq (KX.out.chg X4.out (by omega))
    replace KR := zq (KR.out.chg X4.out (by omega))
    clear hv4
    refine (C4.out _ Ev4.out).mono ?_; rintro r w4 ⟨rfl, hb4⟩
    have Y4 := zq (Chg.of_ex hb4)
    have s4 := Y4.out.size
    have Ew4 := zq (Ev4.out.chg Y4.out (by omega))
    clear hb4
    replace KX := zq (KX.out.chg Y4.out (by omega))
    replace KR := zq (KR.out.chg Y4.out (by omega))
    obtain ⟨qX0, qX1, qX2, qX3, qX4, qX5, qX6, qX7, qX8⟩ := KX.out.c9
    have jX := KX.out.lt
    obtain ⟨qR0, qR1, qR2, qR3, qR4, qR5, qR6, qR7, qR8⟩ := KR.out.c9
    have jR := KR.out.lt
    have zR := KR.out.frozen
    go_wp2_with fail
    refine name_calls ?_; intro v5 hv5
    have X5 : Hid (Chg (0) (0) w4 v5) := zx hv5
    have t5 := X5.out.size
    have Ev5 := zq (Ew4.out.chg X5.out (by omega))
    clear qX0 qX1 qX2 qX3 qX4 qX5 qX6 qX7 qX8 jX
    clear qR0 qR1 qR2 qR3 qR4 qR5 qR6 qR7 qR8 jR zR
    replace KX := zq (KX.out.chg X5.out (by omega))
    replace KR := zq (KR.out.chg X5.out (by omega))
    clear hv5
    refine (C5.out _ Ev5.out).mono ?_; rintro r w5 ⟨a5, rfl, ⟨hfa, hfb, hfc, hfd⟩, hb5⟩
    have Y5 := zq (Chg.of_ex hb5)
    have s5 := Y5.out.size
    have Ew5 := zq (Ev5.out.chg Y5.out (by omega))
    clear hb5
    replace KX := zq (KX.out.chg Y5.out (by omega))
    replace KR := zq (KR.out.chg Y5.out (by omega))
    have HFA := zq hfa; clear hfa
    have WHFA := zq HFA.out.row
    have HFB := zq hfb; clear hfb
    have WHFB := zq HFB.out.row
    have HFC := zq hfc; clear hfc
    have WHFC := zq HFC.out.row
    have HFD := zq hfd; clear hfd
    have WHFD := zq HFD.out.row
    obtain ⟨qX0, qX1, qX2, qX3, qX4, qX5, qX6, qX7, qX8⟩ := KX.out.c9
    have jX := KX.out.lt
    obtain ⟨qR0, qR1, qR2, qR3, qR4, qR5, qR6, qR7, qR8⟩ := KR.out.c9
    have jR := KR.out.lt
    have zR := KR.out.frozen
    go_wp2_with fail
    refine name_calls ?_; intro v6 hv6
    have X6 : Hid (Chg (0) (0) w5 v6) := zx hv6
    have t6 := X6.out.size
    have Ev6 := zq (Ew5.out.chg X6.out (by omega))
    clear qX0 qX1 qX2 qX3 qX4 qX5 qX6 qX7 qX8 jX
    clear qR0 qR1 qR2 qR3 qR4 qR5 qR6 qR7 qR8 jR zR
    replace KX := zq (KX.out.chg X6.out (by omega))
    replace KR := zq (KR.out.chg X6.out (by omega))
    replace HFA := zq (HFA.out.chg X6.out WHFA.out (by omega))
    replace HFB := zq (HFB.out.chg X6.out WHFB.out (by omega))
    replace HFC := zq (HFC.out.chg X6.out WHFC.out (by omega))
    replace HFD := zq (HFD.out.chg X6.out WHFD.out (by omega))
    have KO : Hid (Blk v6 (w5.heap.size) 34 [.slice a5.b m.table.buckets.length a5.bc, .slice a5.f m.table.frames.length a5.fc, .slice a5.l m.cache.lines.length a5.lc, .int .i64 m.cache.hand, .int .i64 m.tags.count, .int .i64 m.tags.next, .int .i64 m.tags.round, .slice a5.o m.tags.owns.length a5.oc, .int .i64 m.space]) := zk hv6
    have lO : w5.heap.size < v6.heap.size := KO.out.lt
    clear hv6
    refine (C6.out _ Ev6.out).mono ?_; rintro r w6 ⟨rfl, hb6⟩
    have Y6 := zq (Chg.of_ex hb6)
    have s6 := Y6.out.size
    have Ew6 := zq (Ev6.out.chg Y6.out (by omega))
    clear hb6
    replace KX := zq (KX.out.chg Y6.out (by omega))
    replace KR := zq (KR.out.chg Y6.out (by omega))
    replace KO := zq (KO.out.chg Y6.out (by omega))
    replace HFA := zq (HFA.out.chg Y6.out WHFA.out (by omega))
    replace HFB := zq (HFB.out.chg Y6.out WHFB.out (by omega))
    replace HFC := zq (HFC.out.chg Y6.out WHFC.out (by omega))
    replace HFD := zq (HFD.out.chg Y6.out WHFD.out (by omega))
    obtain ⟨qX0, qX1, qX2, qX3, qX4, qX5, qX6, qX7, qX8⟩ := KX.out.c9
    have jX := KX.out.lt
    obtain ⟨qR0, qR1, qR2, qR3, qR4, qR5, qR6, qR7, qR8⟩ := KR.out.c9
    have jR := KR.out.lt
    have zR := KR.out.frozen
    obtain ⟨qO0, qO1, qO2, qO3, qO4, qO5, qO6, qO7, qO8⟩ := KO.out.c9
    have jO := KO.out.lt
    have zO := KO.out.frozen
    have hne1 : ¬ w5.heap.size = w.heap.size + 1 := by omega
    have hne2 : ¬ w.heap.size + 1 = w5.heap.size := by omega
    have FK : Hid (∀ w', Ex w6 w' → (w'.cell? ⟨w.heap.size, 0, none⟩ = some (.slice A m.table.buckets.length c) ∧ w'.cell? ⟨w.heap.size, 1, none⟩ = some (.slice (some ⟨b2, o2, none⟩) m.table.frames.length d) ∧ w'.cell? ⟨w.heap.size, 8, none⟩ = some (.int .i64 m.space))) := zq (fun w' h => ⟨(KX.out.ex h).c9.1, (KX.out.ex h).c9.2.1, (KX.out.ex h).c9.2.2.2.2.2.2.2.2⟩)
    go_wp2_with fail
    go_region_held3 (fun w' => (w'.cell? ⟨w.heap.size, 0, none⟩ = some (.slice A m.table.buckets.length c) ∧ w'.cell? ⟨w.heap.size, 1, none⟩ = some (.slice (some ⟨b2, o2, none⟩) m.table.frames.length d) ∧ w'.cell? ⟨w.heap.size, 8, none⟩ = some (.int .i64 m.space))) (first | (refine FK.out _ ?_; with_reducible (first | exact Ex.refl _ | exact (Ex.refl _).drew | exact hE1 | exact hE2)) | go_keep) (first
      | (go_at_call 80; (with_reducible refine (C7.out _).mono ?_); rintro r w7 ⟨rfl, hb7⟩; have hE1 := Ex.trans (Ex.refl _).drew hb7)
      | (go_at_call 79; (with_reducible refine (C8.out _ ?_).mono ?_); (exact Ew6.out.trans hE1); rintro r w8 ⟨⟨sp, rfl⟩, hb8⟩; have hE2 := Ex.trans hE1 hb8))
    rename_i hHeld
    have Y8 := zq (Chg.of_ex hE2)
    clear hHeld hE1 hE2 hb7 hb8 FK
    have s8 := Y8.out.size
    have Ew8 := zq (Ew6.out.chg Y8.out (by omega))
    clear qX0 qX1 qX2 qX3 qX4 qX5 qX6 qX7 qX8 jX
    clear qR0 qR1 qR2 qR3 qR4 qR5 qR6 qR7 qR8 jR zR
    clear qO0 qO1 qO2 qO3 qO4 qO5 qO6 qO7 qO8 jO zO
    replace KX := zq (KX.out.chg Y8.out (by omega))
    replace KR := zq (KR.out.chg Y8.out (by omega))
    replace KO := zq (KO.out.chg Y8.out (by omega))
    replace HFA := zq (HFA.out.chg Y8.out WHFA.out (by omega))
    replace HFB := zq (HFB.out.chg Y8.out WHFB.out (by omega))
    replace HFC := zq (HFC.out.chg Y8.out WHFC.out (by omega))
    replace HFD := zq (HFD.out.chg Y8.out WHFD.out (by omega))
    obtain ⟨qX0, qX1, qX2, qX3, qX4, qX5, qX6, qX7, qX8⟩ := KX.out.c9
    have jX := KX.out.lt
    obtain ⟨qR0, qR1, qR2, qR3, qR4, qR5, qR6, qR7, qR8⟩ := KR.out.c9
    have jR := KR.out.lt
    have zR := KR.out.frozen
    obtain ⟨qO0, qO1, qO2, qO3, qO4, qO5, qO6, qO7, qO8⟩ := KO.out.c9
    have jO := KO.out.lt
    have zO := KO.out.frozen
    go_wp2_with fail
    refine name_calls ?_; intro v10 hv10
    have X10 : Hid (Chg (0) (0) w8 v10) := zx hv10
    have t10 := X10.out.size
    have Ev10 := zq (Ew8.out.chg X10.out (by omega))
    clear qX0 qX1 qX2 qX3 qX4 qX5 qX6 qX7 qX8 jX
    clear qR0 qR1 qR2 qR3 qR4 qR5 qR6 qR7 qR8 jR zR
    clear qO0 qO1 qO2 qO3 qO4 qO5 qO6 qO7 qO8 jO zO
    replace KX := zq (KX.out.chg X10.out (by omega))
    replace KR := zq (KR.out.chg X10.out (by omega))
    replace KO := zq (KO.out.chg X10.out (by omega))
    replace HFA := zq (HFA.out.chg X10.out WHFA.out (by omega))
    replace HFB := zq (HFB.out.chg X10.out WHFB.out (by omega))
    replace HFC := zq (HFC.out.chg X10.out WHFC.out (by omega))
    replace HFD := zq (HFD.out.chg X10.out WHFD.out (by omega))
    clear hv10
    refine (C10.out _ Ev10.out).mono ?_; rintro r w10 ⟨a10, rfl, ⟨hfe, hff, hfg, hfh⟩, hb10⟩
    have Y10 := zq (Chg.of_ex hb10)
    have s10 := Y10.out.size
    have Ew10 := zq (Ev10.out.chg Y10.out (by omega))
    clear hb10
    replace KX := zq (KX.out.chg Y10.out (by omega))
    replace KR := zq (KR.out.chg Y10.out (by omega))
    replace KO := zq (KO.out.chg Y10.out (by omega))
    replace HFA := zq (HFA.out.chg Y10.out WHFA.out (by omega))
    replace HFB := zq (HFB.out.chg Y10.out WHFB.out (by omega))
    replace HFC := zq (HFC.out.chg Y10.out WHFC.out (by omega))
    replace HFD := zq (HFD.out.chg Y10.out WHFD.out (by omega))
    have HFE := zq hfe; clear hfe
    have WHFE := zq HFE.out.row
    have HFF := zq hff; clear hff
    have WHFF := zq HFF.out.row
    have HFG := zq hfg; clear hfg
    have WHFG := zq HFG.out.row
    have HFH := zq hfh; clear hfh
    have WHFH := zq HFH.out.row
    obtain ⟨qX0, qX1, qX2, qX3, qX4, qX5, qX6, qX7, qX8⟩ := KX.out.c9
    have jX := KX.out.lt
    obtain ⟨qR0, qR1, qR2, qR3, qR4, qR5, qR6, qR7, qR8⟩ := KR.out.c9
    have jR := KR.out.lt
    have zR := KR.out.frozen
    obtain ⟨qO0, qO1, qO2, qO3, qO4, qO5, qO6, qO7, qO8⟩ := KO.out.c9
    have jO := KO.out.lt
    have zO := KO.out.frozen
    have pk := PK.out _ Ew10.out
    have hb2' : b2 < w10.heap.size := by omega
    have hb2n : ¬ w5.heap.size = b2 := by omega
    have hb2m : ¬ b2 = w5.heap.size := by omega
    go_wp2_with fail
    refine name_calls ?_; intro v11 hv11
    have X11 : Hid (Chg (w5.heap.size) (w5.heap.size + 1) w10 v11) := zx hv11
    have t11 := X11.out.size
    have Ev11 := zq (Ew10.out.chg X11.out (by omega))
    clear qX0 qX1 qX2 qX3 qX4 qX5 qX6 qX7 qX8 jX
    clear qR0 qR1 qR2 qR3 qR4 qR5 qR6 qR7 qR8 jR zR
    clear qO0 qO1 qO2 qO3 qO4 qO5 qO6 qO7 qO8 jO zO
    replace KO : Hid (Blk v11 (w5.heap.size) 34 [.slice a10.b m.table.buckets.length a10.bc, .slice a10.f m.table.frames.length a10.fc, .slice a10.l fc.lines.length a10.lc, .int .i64 fc.hand, .int .i64 m.tags.count, .int .i64 m.tags.next, .int .i64 m.tags.round, .slice a10.o m.tags.owns.length a10.oc, .int .i64 m.space]) := zq (by rw [hv11]; exact Blk.put9 KO.out)
    replace KX := zq (KX.out.chg X11.out (by omega))
    replace KR := zq (KR.out.chg X11.out (by omega))
    replace HFA := zq (HFA.out.chg X11.out WHFA.out (by omega))
    replace HFB := zq (HFB.out.chg X11.out WHFB.out (by omega))
    replace HFC := zq (HFC.out.chg X11.out WHFC.out (by omega))
    replace HFD := zq (HFD.out.chg X11.out WHFD.out (by omega))
    replace HFE := zq (HFE.out.chg X11.out WHFE.out (by omega))
    replace HFF := zq (HFF.out.chg X11.out WHFF.out (by omega))
    replace HFG := zq (HFG.out.chg X11.out WHFG.out (by omega))
    replace HFH := zq (HFH.out.chg X11.out WHFH.out (by omega))
    clear hv11
    refine (C9.out _ _).mono ?_; rintro r w11 ⟨⟨al, rfl⟩, hb11⟩
    have Y11 := zq (Chg.of_ex hb11)
    have s11 := Y11.out.size
    have Ew11 := zq (Ev11.out.chg Y11.out (by omega))
    clear hb11
    replace KX := zq (KX.out.chg Y11.out (by omega))
    replace KR := zq (KR.out.chg Y11.out (by omega))
    replace KO := zq (KO.out.chg Y11.out (by omega))
    replace HFA := zq (HFA.out.chg Y11.out WHFA.out (by omega))
    replace HFB := zq (HFB.out.chg Y11.out WHFB.out (by omega))
    replace HFC := zq (HFC.out.chg Y11.out WHFC.out (by omega))
    replace HFD := zq (HFD.out.chg Y11.out WHFD.out (by omega))
    replace HFE := zq (HFE.out.chg Y11.out WHFE.out (by omega))
    replace HFF := zq (HFF.out.chg Y11.out WHFF.out (by omega))
    replace HFG := zq (HFG.out.chg Y11.out WHFG.out (by omega))
    replace HFH := zq (HFH.out.chg Y11.out WHFH.out (by omega))
    obtain ⟨qX0, qX1, qX2, qX3, qX4, qX5, qX6, qX7, qX8⟩ := KX.out.c9
    have jX := KX.out.lt
    obtain ⟨qR0, qR1, qR2, qR3, qR4, qR5, qR6, qR7, qR8⟩ := KR.out.c9
    have jR := KR.out.lt
    have zR := KR.out.frozen
    obtain ⟨qO0, qO1, qO2, qO3, qO4, qO5, qO6, qO7, qO8⟩ := KO.out.c9
    have jO := KO.out.lt
    have zO := KO.out.frozen
    cases al
    · go_wp2
      exact bodyPost_ret (v := .tuple #[.agg #[.slice a10.b (⟨m.table, fc, m.tags, m.space⟩ : MachD).table.buckets.length a10.bc, .slice a10.f (⟨m.table, fc, m.tags, m.space⟩ : MachD).table.frames.length a10.fc, .slice a10.l (⟨m.table, fc, m.tags, m.space⟩ : MachD).cache.lines.length a10.lc, .int .i64 (⟨m.table, fc, m.tags, m.space⟩ : MachD).cache.hand, .int .i64 (⟨m.table, fc, m.tags, m.space⟩ : MachD).tags.count, .int .i64 (⟨m.table, fc, m.tags, m.space⟩ : MachD).tags.next, .int .i64 (⟨m.table, fc, m.tags, m.space⟩ : MachD).tags.round, .slice a10.o (⟨m.table, fc, m.tags, m.space⟩ : MachD).tags.owns.length a10.oc, .int .i64 (⟨m.table, fc, m.tags, m.space⟩ : MachD).space], .int .i64 i, .int .i64 4, .bool true]) (by simp [results, Tryz.results92, go_sem, *]) rfl
        ⟨a10, 4, rfl, ⟨(Fr.mono (zp HFE.out WHFE.out) (by omega)), (Fr.mono (zp HFF.out WHFF.out) (by omega)), (Fr.mono (zp HFG.out WHFG.out) (by omega)), (Fr.mono (zp HFH.out WHFH.out) (by omega))⟩, by omega, HM3.out, (ze Ew11.out)⟩
    · go_wp2
      exact bodyPost_ret (v := .tuple #[.agg #[.slice a10.b (⟨m.table, fc, m.tags, m.space⟩ : MachD).table.buckets.length a10.bc, .slice a10.f (⟨m.table, fc, m.tags, m.space⟩ : MachD).table.frames.length a10.fc, .slice a10.l (⟨m.table, fc, m.tags, m.space⟩ : MachD).cache.lines.length a10.lc, .int .i64 (⟨m.table, fc, m.tags, m.space⟩ : MachD).cache.hand, .int .i64 (⟨m.table, fc, m.tags, m.space⟩ : MachD).tags.count, .int .i64 (⟨m.table, fc, m.tags, m.space⟩ : MachD).tags.next, .int .i64 (⟨m.table, fc, m.tags, m.space⟩ : MachD).tags.round, .slice a10.o (⟨m.table, fc, m.tags, m.space⟩ : MachD).tags.owns.length a10.oc, .int .i64 (⟨m.table, fc, m.tags, m.space⟩ : MachD).space], .int .i64 i, .int .i64 2, .bool true]) (by simp [results, Tryz.results92, go_sem, *]) rfl
        ⟨a10, 2, rfl, ⟨(Fr.mono (zp HFE.out WHFE.out) (by omega)), (Fr.mono (zp HFF.out WHFF.out) (by omega)), (Fr.mono (zp HFG.out WHFG.out) (by omega)), (Fr.mono (zp HFH.out WHFH.out) (by omega))⟩, by omega, HM1.out, (ze Ew11.out)⟩
end Go.Proofs.YtbdlpbladpppjaaGreatDoor
namespace Go.Proofs.YtbdlpbladpppjaaGreatDoor
open Go.ChangeShapes Go.WideShapes Go.ChangeAt Go.RowKit
set_option linter.unusedVariables false

/-- Marks that are no more than those. -/
def LessMarks (ks ms : List Bool) : Prop := ks.length = ms.length ∧ ∀ i : Nat, ks[i]? = some true → ms[i]? = some true
theorem LessMarks.refl (ms : List Bool) : LessMarks ms ms := ⟨rfl, fun _ h => h⟩
theorem LessMarks.off {ks ms : List Bool} (h : LessMarks ks ms) (k : Nat) : LessMarks (ks.set k false) ms := by
  refine ⟨by simpa using h.1, fun i hi => ?_⟩
  rcases get_set_cases hi with ⟨_, e, _⟩ | ⟨_, hi'⟩
  · cases e
  · exact h.2 i hi'
theorem MemOk.less {m : MemD} (h : MemOk m) {ks : List Bool} (hk : LessMarks ks m.marks) {hd : Int} (h0 : 0 ≤ hd ∧ hd < ks.length) : MemOk ⟨m.mach, ks, hd⟩ :=
  ⟨h.1, by rw [hk.1]; exact h.2.1, h0, fun i f h1 h2 => h.2.2.2 i f (hk.2 i h1) h2⟩
theorem MemOk.new {m : MachD} (h : MachOk m) : MemOk ⟨m, List.replicate m.table.frames.length false, 0⟩ := by
  have := h.few
  refine ⟨h, by simp, ⟨by simp, by simp; omega⟩, fun i f h1 h2 => ?_⟩
  simp only [List.getElem?_replicate] at h1
  split at h1
  · injection h1 with h1; cases h1
  · cases h1
/-- A page is put into a free frame. -/
theorem MemOk.put {m : MemD} (h : MemOk m) {k : KeyD} {i : Nat} {rt : Int} (hk : keyOk k) (hs : keyFor k.space k.page = k) (hr : 0 ≤ rt ∧ rt < 8) {f : FrameD} (hf : m.mach.table.frames[i]? = some f) (hu : f.used = false) (hn : findF m.mach.table k < 0) :
    (putM m.mach k i rt).2 = true ∧ MemOk ⟨(putM m.mach k i rt).1, m.marks, m.hand⟩ ∧ findF (putM m.mach k i rt).1.table k = (i : Int) ∧ (putM m.mach k i rt).1.space = m.mach.space ∧ (putM m.mach k i rt).1.table.frames.length = m.mach.table.frames.length := by
  have e : putM m.mach k i rt = (⟨linkT m.mach.table k i rt, m.mach.cache, m.mach.tags, m.mach.space⟩, true) := by
    unfold putM putsT
    rw [getD_of hf, hu, decide_eq_true hn]
    rfl
  obtain ⟨h1, h2⟩ := putM_ok h.1 hk hs hr (getElem?_lt hf) (by rw [e])
  have h3 : (putM m.mach k i rt).1.table.frames.length = m.mach.table.frames.length := by rw [e]; unfold linkT; simp
  refine ⟨by rw [e], ⟨h1, by rw [h3]; exact h.2.1, h.2.2.1, fun j g hj hg => ?_⟩, h2, by rw [e], h3⟩
  rw [e] at hg
  have hjl := getElem?_lt hj
  have hg0 := List.getElem?_eq_getElem (l := m.mach.table.frames) (i := j) (by have := h.2.1; simp only at hjl; omega)
  have hgu := h.2.2.2 j _ hj hg0
  have hg2 : (linkT m.mach.table k i rt).frames[j]? = some g := hg
  rw [linkT_keep hf hu hg0 hgu] at hg2
  injection hg2 with hg2
  rw [← hg2]; exact hgu
/-- A frame's page is taken out, and the frame loses its mark. -/
theorem MemOk.take {m : MemD} (h : MemOk m) {i : Nat} {f : FrameD} (hf : m.mach.table.frames[i]? = some f) (hu : f.used = true) :
    keyOk f.key ∧ keyFor f.key.space f.key.page = f.key ∧ (takeM m.mach f.key).2 = true ∧ MemOk ⟨(takeM m.mach f.key).1, m.marks.set i false, m.hand⟩ ∧ (takeM m.mach f.key).1.table.frames[i]? = some freeF ∧ (takeM m.mach f.key).1.space = m.mach.space ∧ (∀ k : KeyD, findF m.mach.table k < 0 → findF (takeM m.mach f.key).1.table k < 0) := by
  have hT := h.1.1.1
  have hfo := (hT.2.1 i f (getElem?_lt hf) hf).1.2 hu
  have hff := h.1.2.1 i f hf
  have hks : keyFor f.key.space f.key.page = f.key := by
    unfold keyFor
    split
    · rename_i hp
      have : f.key.space = 0 := Decidable.byContradiction fun q => hff ⟨hu, hp, q⟩
      rw [← this]
    · rfl
  have hfd := findF_hit hT hf hu rfl
  have hok : (takeM m.mach f.key).2 = true := by unfold takeM; rw [if_neg (by omega)]
  obtain ⟨i', f', e1, hf', hu', hk', e2, e3, e4, hmo⟩ := takeM_ok h.1 hfo.1 hks hok
  have hii : i' = i := by omega
  subst hii
  have hfree : (takeM m.mach f.key).1.table.frames[i']? = some freeF := by rw [e2]; exact (unlinkT_facts hT hf hu).2.2.1
  have hlen : (takeM m.mach f.key).1.table.frames.length = m.mach.table.frames.length := by rw [e2]; exact (unlinkT_facts hT hf hu).2.1
  refine ⟨hfo.1, hks, hok, ⟨hmo, by simp only [List.length_set]; rw [hlen]; exact h.2.1, ⟨h.2.2.1.1, by simp only [List.length_set]; exact h.2.2.1.2⟩, fun j g hj hg => ?_⟩, hfree, e4, fun k hn => ?_⟩
  · rcases get_set_cases hj with ⟨_, e, _⟩ | ⟨hne, hj'⟩
    · cases e
    · have hjl := getElem?_lt hj'
      have hg0 := List.getElem?_eq_getElem (l := m.mach.table.frames) (i := j) (by have := h.2.1; omega)
      have hgu := h.2.2.2 j _ hj' hg0
      obtain ⟨g', a1, a2, _⟩ := unlinkT_keep hT hf hu hg0 hne
      simp only at hg
      rw [e2, a1] at hg
      injection hg with hg
      rw [← hg, a2]; exact hgu
  · rw [findF_none (fun j g hg hgu => ?_)]
    · omega
    rw [e2] at hg
    obtain ⟨_, g0, b1, b2, b3, _⟩ := unlinkT_back hT hf hu hg hgu
    rw [b3]
    exact findF_neg hn b1 b2
/-- A page is touched, and its frame gets a mark. -/
theorem MemOk.touch {m : MemD} (h : MemOk m) {page : Int} (hp : 0 ≤ page ∧ page < 256) (hn : ¬ findF m.mach.table (keyFor m.mach.space page) < 0) :
    ∃ (i : Nat) (f : FrameD), touchF m.mach page = (i : Int) ∧ i < m.marks.length ∧ m.mach.table.frames[i]? = some f ∧ MemOk ⟨touchM m.mach page, m.marks.set i true, m.hand⟩ := by
  obtain ⟨i, f, e1, hf, hu⟩ := touchF_ok h.1 (missM_no hn)
  obtain ⟨h1, h2, h3, h4⟩ := touchM_ok h.1 hp
  refine ⟨i, f, e1, by rw [h.2.1]; exact getElem?_lt hf, hf, h1, by simp only [List.length_set]; rw [h2]; exact h.2.1, ⟨h.2.2.1.1, by simp only [List.length_set]; exact h.2.2.1.2⟩, fun j g hj hg => ?_⟩
  simp only at hg
  rw [h2] at hg
  rcases get_set_cases hj with ⟨rfl, _, _⟩ | ⟨_, hj'⟩
  · rw [hf] at hg
    injection hg with hg
    rw [← hg]; exact hu
  · exact h.2.2.2 j g hj' hg
theorem keyFor_again (s p : Int) : keyFor (keyFor s p).space (keyFor s p).page = keyFor s p := by
  unfold keyFor
  by_cases h : 128 ≤ p
  · simp [h]
  · simp [h]
theorem keyFor_keyOk {m : MachD} (h : MachOk m) {p : Int} (hp : 0 ≤ p ∧ p < 256) : keyOk (keyFor m.space p) := keyFor_ok h.space hp
end Go.Proofs.YtbdlpbladpppjaaGreatDoor
namespace Go.Proofs.YtbdlpbladpppjaaGreatDoor
open Go.ChangeShapes Go.WideShapes Go.ChangeAt Go.RowKit
open Rec (sz cs)
set_option linter.unusedVariables false
set_option maxRecDepth 100000

set_option maxHeartbeats 2000000 in
theorem wireS_c (t : CacheD) (p : Int) (b : Bool) (A : Option Addr) (c : Nat) (w : World) (hx : Rd w A t.lines) (hn : t.lines.length ≤ 1048576) (hc : t.lines.length ≤ c) (hc2 : c ≤ maxLen) :
    Calls Tryz.prog 107 #[.agg #[.slice A t.lines.length c, .int .i64 t.hand], .int .i64 p, .bool b] w
    fun r w' => ∃ A' c', r = .returned (.tuple #[.agg #[.slice A' (wireLine t p b).1.lines.length c', .int .i64 (wireLine t p b).1.hand], .bool (wireLine t p b).2]) ∧ Fr 64 w' w.heap.size A' c' (wireLine t p b).1.lines ∧ Ex w w' := by
  have HX := zq hx
  clear hx
  cases hv : cacheV t
  · have e : wireLine t p b = (noCache, false) := if_neg (fun h => by rw [hv] at h; cases h.1)
    rw [e]
    clear e
    go_enter Tryz.func107, Tryz.ntmps107
    go_wp2_with fail
    refine name_calls ?_; intro v1 hv1
    have X1 : Hid (Chg (0) (0) w v1) := zx hv1
    have t1 := X1.out.size
    have Ev1 := zq ((Ex.refl w).chg X1.out (by omega))
    have KX : Hid (Blk v1 (w.heap.size) 29 [.slice A t.lines.length c, .int .i64 t.hand]) := zk hv1
    have lX : w.heap.size < v1.heap.size := KX.out.lt
    have KR : Hid (Blk v1 (w.heap.size + 1) 29 [.slice none 0 0, .int .i64 0]) := zk hv1
    have lR : w.heap.size + 1 < v1.heap.size := KR.out.lt
    have DX := zq (HX.out.ex Ev1.out)
    clear hv1
    refine (cacheValidS_c t A c _ DX.out hn hc).mono ?_; rintro r w1 ⟨rfl, hb1⟩
    have Y1 := zq (Chg.of_ex hb1)
    have s1 := Y1.out.size
    have Ew1 := zq (Ev1.out.chg Y1.out (by omega))
    clear hb1
    replace KX := zq (KX.out.chg Y1.out (by omega))
    replace KR := zq (KR.out.chg Y1.out (by omega))
    replace DX := zq (HX.out.ex Ew1.out)
    obtain ⟨qX0, qX1⟩ := KX.out.c2
    have jX := KX.out.lt
    obtain ⟨qR0, qR1⟩ := KR.out.c2
    have jR := KR.out.lt
    have zR := KR.out.frozen
    rw [hv]
    go_wp2
    exact bodyPost_ret (v := .tuple #[.agg #[.slice none 0 0, .int .i64 0], .bool false]) (by simp [results, Tryz.results107, go_sem, qR0, qR1]) rfl
      ⟨none, 0, rfl, Fr.none_ _ _ _ _, (Ew1.out.set (Nat.le_add_right _ 1) _).set (Nat.le_add_right _ 1) _⟩
  by_cases hp0 : p < 0
  · have e : wireLine t p b = (noCache, false) := if_neg (fun h => by have := inB_true.1 h.2.1; omega)
    rw [e]
    clear e
    go_enter Tryz.func107, Tryz.ntmps107
    go_wp2_with fail
    refine name_calls ?_; intro v1 hv1
    have X1 : Hid (Chg (0) (0) w v1) := zx hv1
    have t1 := X1.out.size
    have Ev1 := zq ((Ex.refl w).chg X1.out (by omega))
    have KX : Hid (Blk v1 (w.heap.size) 29 [.slice A t.lines.length c, .int .i64 t.hand]) := zk hv1
    have lX : w.heap.size < v1.heap.size := KX.out.lt
    have KR : Hid (Blk v1 (w.heap.size + 1) 29 [.slice none 0 0, .int .i64 0]) := zk hv1
    have lR : w.heap.size + 1 < v1.heap.size := KR.out.lt
    have DX := zq (HX.out.ex Ev1.out)
    clear hv1
    refine (cacheValidS_c t A c _ DX.out hn hc).mono ?_; rintro r w1 ⟨rfl, hb1⟩
    have Y1 := zq (Chg.of_ex hb1)
    have s1 := Y1.out.size
    have Ew1 := zq (Ev1.out.chg Y1.out (by omega))
    clear hb1
    replace KX := zq (KX.out.chg Y1.out (by omega))
    replace KR := zq (KR.out.chg Y1.out (by omega))
    replace DX := zq (HX.out.ex Ew1.out)
    obtain ⟨qX0, qX1⟩ := KX.out.c2
    have jX := KX.out.lt
    obtain ⟨qR0, qR1⟩ := KR.out.c2
    have jR := KR.out.lt
    have zR := KR.out.frozen
    rw [hv]
    go_wp2
    exact bodyPost_ret (v := .tuple #[.agg #[.slice none 0 0, .int .i64 0], .bool false]) (by simp [results, Tryz.results107, go_sem, qR0, qR1]) rfl
      ⟨none, 0, rfl, Fr.none_ _ _ _ _, (Ew1.out.set (Nat.le_add_right _ 1) _).set (Nat.le_add_right _ 1) _⟩
  obtain ⟨k, rfl⟩ := Int.eq_ofNat_of_zero_le (show 0 ≤ p by omega)
  by_cases hkn : t.lines.length ≤ k
  · have e : wireLine t k b = (noCache, false) := if_neg (fun h => by have := inB_true.1 h.2.1; omega)
    rw [e]
    clear e
    have hkn' : (t.lines.length : Int) ≤ (k : Int) := by omega
    go_enter Tryz.func107, Tryz.ntmps107
    go_wp2_with fail
    refine name_calls ?_; intro v1 hv1
    have X1 : Hid (Chg (0) (0) w v1) := zx hv1
    have t1 := X1.out.size
    have Ev1 := zq ((Ex.refl w).chg X1.out (by omega))
    have KX : Hid (Blk v1 (w.heap.size) 29 [.slice A t.lines.length c, .int .i64 t.hand]) := zk hv1
    have lX : w.heap.size < v1.heap.size := KX.out.lt
    have KR : Hid (Blk v1 (w.heap.size + 1) 29 [.slice none 0 0, .int .i64 0]) := zk hv1
    have lR : w.heap.size + 1 < v1.heap.size := KR.out.lt
    have DX := zq (HX.out.ex Ev1.out)
    clear hv1
    refine (cacheValidS_c t A c _ DX.out hn hc).mono ?_; rintro r w1 ⟨rfl, hb1⟩
    have Y1 := zq (Chg.of_ex hb1)
    have s1 := Y1.out.size
    have Ew1 := zq (Ev1.out.chg Y1.out (by omega))
    clear hb1
    replace KX := zq (KX.out.chg Y1.out (by omega))
    replace KR := zq (KR.out.chg Y1.out (by omega))
    replace DX := zq (HX.out.ex Ew1.out)
    obtain ⟨qX0, qX1⟩ := KX.out.c2
    have jX := KX.out.lt
    obtain ⟨qR0, qR1⟩ := KR.out.c2
    have jR := KR.out.lt
    have zR := KR.out.frozen
    rw [hv]
    go_wp2
    exact bodyPost_ret (v := .tuple #[.agg #[.slice none 0 0, .int .i64 0], .bool false]) (by simp [results, Tryz.results107, go_sem, qR0, qR1]) rfl
      ⟨none, 0, rfl, Fr.none_ _ _ _ _, (Ew1.out.set (Nat.le_add_right _ 1) _).set (Nat.le_add_right _ 1) _⟩
  have hk : inB k t.lines.length = true := inB_true.2 (by omega)
  have HK := zq hk
  have hkn : k < t.lines.length := by omega
  have hkn' : ¬ (t.lines.length : Int) ≤ (k : Int) := by omega
  have hxk := List.getElem?_eq_getElem hkn
  generalize t.lines[k] = x at hxk
  have hgd := getD_of (d := noLine) hxk
  have HXK := zq hxk
  have HGD := zq hgd
  clear hxk hk hp0 hgd
  cases hxv : x.valid
  · have e : wireLine t k b = (noCache, false) := if_neg (fun h => by have := h.2.2.1; rw [Int.toNat_natCast, HGD.out, hxv] at this; cases this)
    rw [e]
    clear e
    go_enter Tryz.func107, Tryz.ntmps107
    go_wp2_with fail
    refine name_calls ?_; intro v1 hv1
    have X1 : Hid (Chg (0) (0) w v1) := zx hv1
    have t1 := X1.out.size
    have Ev1 := zq ((Ex.refl w).chg X1.out (by omega))
    have KX : Hid (Blk v1 (w.heap.size) 29 [.slice A t.lines.length c, .int .i64 t.hand]) := zk hv1
    have lX : w.heap.size < v1.heap.size := KX.out.lt
    have KR : Hid (Blk v1 (w.heap.size + 1) 29 [.slice none 0 0, .int .i64 0]) := zk hv1
    have lR : w.heap.size + 1 < v1.heap.size := KR.out.lt
    have DX := zq (HX.out.ex Ev1.out)
    clear hv1
    refine (cacheValidS_c t A c _ DX.out hn hc).mono ?_; rintro r w1 ⟨rfl, hb1⟩
    have Y1 := zq (Chg.of_ex hb1)
    have s1 := Y1.out.size
    have Ew1 := zq (Ev1.out.chg Y1.out (by omega))
    clear hb1
    replace KX := zq (KX.out.chg Y1.out (by omega))
    replace KR := zq (KR.out.chg Y1.out (by omega))
    replace DX := zq (HX.out.ex Ew1.out)
    obtain ⟨qX0, qX1⟩ := KX.out.c2
    have jX := KX.out.lt
    obtain ⟨qR0, qR1⟩ := KR.out.c2
    have jR := KR.out.lt
    have zR := KR.out.frozen
    rw [hv]
    obtain ⟨a1, o1, x', rfl, hb1, hxk', h0, h1, h2, h3, h4, h5⟩ := Rd.line DX.out (k := k) hkn
    obtain rfl : x = x' := by have := HXK.out; rw [hxk'] at this; injection this with this; exact this.symm
    rw [hxv] at h0
    clear hxk'
    go_wp2
    exact bodyPost_ret (v := .tuple #[.agg #[.slice none 0 0, .int .i64 0], .bool false]) (by simp [results, Tryz.results107, go_sem, qR0, qR1]) rfl
      ⟨none, 0, rfl, Fr.none_ _ _ _ _, (Ew1.out.set (Nat.le_add_right _ 1) _).set (Nat.le_add_right _ 1) _⟩
  obtain ⟨xv, xt, xp, xf, xr, xw⟩ := x
  simp only at hxv
  subst hxv
  obtain ⟨a1, o1, hA, -, -⟩ := HX.out (by omega)
  subst hA
  have hce : wireOut t k b = ⟨t.lines.set k ⟨true, xt, xp, xf, xr, b⟩, t.hand⟩ := by unfold wireOut; rw [HGD.out]
  have HV3 : Hid (∀ g c2 w', Rd w' (some ⟨g, 0, none⟩) (t.lines.set k ⟨true, xt, xp, xf, xr, b⟩) → t.lines.length ≤ c2 → Calls Tryz.prog 47 #[.agg #[.slice (some ⟨g, 0, none⟩) t.lines.length c2, .int .i64 t.hand]] w' fun r w'' => r = .returned (.bool (cacheV (wireOut t k b))) ∧ Ex w' w'') := zq (fun g c2 w' hr hc3 => by
    have := cacheValidS_c ⟨t.lines.set k ⟨true, xt, xp, xf, xr, b⟩, t.hand⟩ (some ⟨g, 0, none⟩) c2 w' hr (by simp; omega) (by simp; exact hc3)
    rw [hce]
    simpa using this)
  have HF : Hid (wireLine t k b = if cacheV (wireOut t k b) = true then (⟨t.lines.set k ⟨true, xt, xp, xf, xr, b⟩, t.hand⟩, true) else (noCache, false)) := zq (by
    unfold wireLine
    rw [Int.toNat_natCast, HGD.out, hce]
    simp [hv, HK.out])
  clear hce
  generalize cacheV (wireOut t k b) = co at HV3 HF
  cases co
  all_goals
    rw [HF.out]
    simp only [Bool.false_eq_true, if_false, if_true]
    go_enter Tryz.func107, Tryz.ntmps107
    go_wp2_with fail
    refine name_calls ?_; intro v1 hv1
    have X1 : Hid (Chg (0) (0) w v1) := zx hv1
    have t1 := X1.out.size
    have Ev1 := zq ((Ex.refl w).chg X1.out (by omega))
    have KX : Hid (Blk v1 (w.heap.size) 29 [.slice (some ⟨a1, o1, none⟩) t.lines.length c, .int .i64 t.hand]) := zk hv1
    have lX : w.heap.size < v1.heap.size := KX.out.lt
    have KR : Hid (Blk v1 (w.heap.size + 1) 29 [.slice none 0 0, .int .i64 0]) := zk hv1
    have lR : w.heap.size + 1 < v1.heap.size := KR.out.lt
    have DX := zq (HX.out.ex Ev1.out)
    clear hv1
    refine (cacheValidS_c t _ c _ DX.out hn hc).mono ?_; rintro r w1 ⟨rfl, hb1⟩
    have Y1 := zq (Chg.of_ex hb1)
    have s1 := Y1.out.size
    have Ew1 := zq (Ev1.out.chg Y1.out (by omega))
    clear hb1
    replace KX := zq (KX.out.chg Y1.out (by omega))
    replace KR := zq (KR.out.chg Y1.out (by omega))
    replace DX := zq (HX.out.ex Ew1.out)
    obtain ⟨qX0, qX1⟩ := KX.out.c2
    have jX := KX.out.lt
    obtain ⟨qR0, qR1⟩ := KR.out.c2
    have jR := KR.out.lt
    have zR := KR.out.frozen
    rw [hv]
    obtain ⟨x', hb1, hxk', h0, h1, h2, h3, h4, h5⟩ := Rd.line_known DX.out (k := k) hkn
    obtain rfl : (⟨true, xt, xp, xf, xr, xw⟩ : LineD) = x' := by have := HXK.out; rw [hxk'] at this; injection this with this; exact this.symm
    simp only at h0 h1 h2 h3 h4 h5
    clear hxk'
    go_wp2_with fail
    refine name_calls ?_; intro v2 hv2
    have X2 : Hid (Chg (0) (0) w1 v2) := zx hv2
    have t2 := X2.out.size
    have Ev2 := zq (Ew1.out.chg X2.out (by omega))
    clear qX0 qX1 jX
    clear qR0 qR1 jR zR
    replace KX := zq (KX.out.chg X2.out (by omega))
    replace KR := zq (KR.out.chg X2.out (by omega))
    replace DX := zq (HX.out.ex Ev2.out)
    clear hv2
    refine (l4Copy_c t _ c _ DX.out hn hc hc2).mono ?_; rintro r w2 ⟨A2, c2, rfl, hf2, hb2⟩
    have Y2 := zq (Chg.of_ex hb2)
    have s2 := Y2.out.size
    have Ew2 := zq (Ev2.out.chg Y2.out (by omega))
    clear hb2
    replace KX := zq (KX.out.chg Y2.out (by omega))
    replace KR := zq (KR.out.chg Y2.out (by omega))
    replace DX := zq (HX.out.ex Ew2.out)
    have HF2 := zq hf2; clear hf2
    have WHF2 := zq HF2.out.row
    obtain ⟨qX0, qX1⟩ := KX.out.c2
    have jX := KX.out.lt
    obtain ⟨qR0, qR1⟩ := KR.out.c2
    have jR := KR.out.lt
    have zR := KR.out.frozen
    clear h0 h1 h2 h3 h4 h5
    obtain ⟨g, rest, rfl, hBg, hbk, hrest⟩ := HF2.out.open_ hkn
    have HBK := zq hbk
    have HR := zq hrest
    have hle := HF2.out.le
    have hca := HF2.out.cap
    obtain ⟨d0, d1, d2, d3, d4, d5⟩ := hbk.line HXK.out
    have hfz := hbk.frozen
    have lg := Blk.lt hbk
    clear hbk hrest
    go_wp2_with fail
    refine name_calls ?_; intro v3 hv3
    have X3 : Hid (Chg (g) (g + 1) w2 v3) := zx hv3
    have t3 := X3.out.size
    have Ev3 := zq (Ew2.out.chg X3.out (by omega))
    clear qX0 qX1 jX
    clear qR0 qR1 jR zR
    replace KX := zq (KX.out.chg X3.out (by omega))
    replace KR := zq (KR.out.chg X3.out (by omega))
    have HBN : Hid (Bk 64 v3 g (t.lines.set k ⟨true, xt, xp, xf, xr, b⟩) rest) := zq (by rw [hv3]; exact (Bk.set HBK.out (k := k) (j := 5) (off := k * 6 + 5) (u := .bool b) (y := ⟨true, xt, xp, xf, xr, b⟩) HXK.out (by decide) rfl (by simp [sz])).alloc _)
    clear HF2 WHF2
    have KO : Hid (Blk v3 (w2.heap.size) 29 [.slice (some ⟨g, 0, none⟩) t.lines.length c2, .int .i64 t.hand]) := zk hv3
    have lO : w2.heap.size < v3.heap.size := KO.out.lt
    replace DX := zq (HX.out.ex Ev3.out)
    clear hv3
    refine (HV3.out g c2 _ HBN.out.rd hle).mono ?_; rintro r w3 ⟨rfl, hb3⟩
    have Y3 := zq (Chg.of_ex hb3)
    have s3 := Y3.out.size
    have Ew3 := zq (Ev3.out.chg Y3.out (by omega))
    clear hb3
    replace KX := zq (KX.out.chg Y3.out (by omega))
    replace KR := zq (KR.out.chg Y3.out (by omega))
    replace KO := zq (KO.out.chg Y3.out (by omega))
    replace DX := zq (HX.out.ex Ew3.out)
    obtain ⟨qX0, qX1⟩ := KX.out.c2
    have jX := KX.out.lt
    obtain ⟨qR0, qR1⟩ := KR.out.c2
    have jR := KR.out.lt
    have zR := KR.out.frozen
    obtain ⟨qO0, qO1⟩ := KO.out.c2
    have jO := KO.out.lt
  · go_wp2
    exact bodyPost_ret (v := .tuple #[.agg #[.slice none 0 0, .int .i64 0], .bool false]) (by simp [results, Tryz.results107, go_sem, qR0, qR1]) rfl
      ⟨none, 0, rfl, Fr.none_ _ _ _ _, (Ew3.out.set (Nat.le_add_right _ 1) _).set (Nat.le_add_right _ 1) _⟩
  · go_wp2
    exact bodyPost_ret (v := .tuple #[.agg #[.slice (some ⟨g, 0, none⟩) t.lines.length c2, .int .i64 t.hand], .bool true]) (by simp [results, Tryz.results107, go_sem, qR0, qR1]) rfl
      ⟨some ⟨g, 0, none⟩, c2, by simp, Fr.close (((HBN.out.ex Y3.out.ex_).far (by simp; omega) _).far (by simp; omega) _) (by omega) (by rw [List.length_set]; exact HR.out) (by simp; omega) hca, (Ew3.out.set (Nat.le_add_right _ 1) _).set (Nat.le_add_right _ 1) _⟩
end Go.Proofs.YtbdlpbladpppjaaGreatDoor
