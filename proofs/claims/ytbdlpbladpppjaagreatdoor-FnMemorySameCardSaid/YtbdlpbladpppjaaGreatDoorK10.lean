/- Joined: Zf, Zg, Qc, Rd, Re, Zk, Co. -/
import Derived.Test.YtbdlpbladpppjaaGreatDoorRows
import Derived.Laws.BitsAllLaws
import Derived.Laws.BitsLemmas
import Derived.Test.YtbdlpbladpppjaaGreatDoorK9
import Derived.Test.YtbdlpbladpppjaaGreatDoorK8
import Derived.Test.YtbdlpbladpppjaaGreatDoorK6
import Derived.Test.YtbdlpbladpppjaaGreatDoorK1
import Derived.Test.YtbdlpbladpppjaaGreatDoorK3
namespace Go.Proofs.YtbdlpbladpppjaaGreatDoor
open Go.ChangeShapes Go.WideShapes Go.ChangeAt Go.RowKit
open Rec (sz cs)
set_option linter.unusedVariables false
set_option maxRecDepth 100000

set_option maxHeartbeats 1000000 in
theorem allowsS_c (x y : Int) (w : World) : Calls Tryz.prog 106 #[.int .i64 x, .int .i64 y] w fun r w' => (∃ q : Bool, r = .returned (.bool q)) ∧ Ex w w' := by
 have C1 := zq (fun w' => rightsS_c x w')
 have C2 := zq (fun w' => rightsS_c y w')
 generalize inB x 8 = p1 at C1
 generalize inB y 8 = p2 at C2
 cases p1
 ·go_enter Tryz.func106, Tryz.ntmps106
  go_wp2_with fail
  refine (C1.out _).mono ?_; rintro r wq1 ⟨rfl, rfl⟩
  go_wp2
  go_ret
  exact ⟨⟨_, rfl⟩, Ex.refl _⟩
 cases p2
 ·go_enter Tryz.func106, Tryz.ntmps106
  go_wp2_with fail
  refine (C1.out _).mono ?_; rintro r wq1 ⟨rfl, rfl⟩
  go_wp2_with fail
  refine (C2.out _).mono ?_; rintro r wq2 ⟨rfl, rfl⟩
  go_wp2
  go_ret
  exact ⟨⟨_, rfl⟩, Ex.refl _⟩
 go_enter Tryz.func106, Tryz.ntmps106
 go_wp2_with fail
 refine (C1.out _).mono ?_; rintro r wq1 ⟨rfl, rfl⟩
 go_wp2_with fail
 refine (C2.out _).mono ?_; rintro r wq2 ⟨rfl, rfl⟩
 go_wp2
 go_ret
 exact ⟨⟨_, rfl⟩, Ex.refl _⟩

set_option maxHeartbeats 4000000 in
theorem fillS6_c (m : MachD) (a : MA) (p : Int) (i : Nat) (t : Int) (w : World) (h : MachOk m) (hx : HasM w m a) (hc : CapM m a) (hk : CapX a) {f : FrameD} (hf : m.table.frames[i]? = some f) :
  Calls Tryz.prog 105 #[.agg #[.slice a.b m.table.buckets.length a.bc, .slice a.f m.table.frames.length a.fc, .slice a.l m.cache.lines.length a.lc, .int .i64 m.cache.hand, .int .i64 m.tags.count, .int .i64 m.tags.next, .int .i64 m.tags.round, .slice a.o m.tags.owns.length a.oc, .int .i64 m.space], .int .i64 p, .int .i64 i, .int .i64 t] w fun r w' => ∃ a' : MA, r = .returned (.tuple #[.agg #[.slice a'.b (⟨m.table, (fillLine m.cache ⟨true, t, p, i, f.rights, false⟩).1, m.tags, m.space⟩ : MachD).table.buckets.length a'.bc, .slice a'.f (⟨m.table, (fillLine m.cache ⟨true, t, p, i, f.rights, false⟩).1, m.tags, m.space⟩ : MachD).table.frames.length a'.fc, .slice a'.l (⟨m.table, (fillLine m.cache ⟨true, t, p, i, f.rights, false⟩).1, m.tags, m.space⟩ : MachD).cache.lines.length a'.lc, .int .i64 (⟨m.table, (fillLine m.cache ⟨true, t, p, i, f.rights, false⟩).1, m.tags, m.space⟩ : MachD).cache.hand, .int .i64 (⟨m.table, (fillLine m.cache ⟨true, t, p, i, f.rights, false⟩).1, m.tags, m.space⟩ : MachD).tags.count, .int .i64 (⟨m.table, (fillLine m.cache ⟨true, t, p, i, f.rights, false⟩).1, m.tags, m.space⟩ : MachD).tags.next, .int .i64 (⟨m.table, (fillLine m.cache ⟨true, t, p, i, f.rights, false⟩).1, m.tags, m.space⟩ : MachD).tags.round, .slice a'.o (⟨m.table, (fillLine m.cache ⟨true, t, p, i, f.rights, false⟩).1, m.tags, m.space⟩ : MachD).tags.owns.length a'.oc, .int .i64 (⟨m.table, (fillLine m.cache ⟨true, t, p, i, f.rights, false⟩).1, m.tags, m.space⟩ : MachD).space], .int .i64 (fillLine m.cache ⟨true, t, p, i, f.rights, false⟩).2.1]) ∧ FrM w' w.heap.size ⟨m.table, (fillLine m.cache ⟨true, t, p, i, f.rights, false⟩).1, m.tags, m.space⟩ a' ∧ Ex w w' := by
 have hw := h.fewM
 have C1 := zq (fun w' (e : Ex w w') => l6Copy_c m a w' (hx.ex e) hw hc hk)
 have C2 := zq (fun w' (e : Ex w w') => fillLineS_c m.cache ⟨true, t, p, i, f.rights, false⟩ a.l a.lc w' (hx.l.ex e) hw.l hc.l hk.l)
 generalize fillLine m.cache ⟨true, t, p, i, f.rights, false⟩ = q at C2 ⊢
 obtain ⟨fc, at_, ok⟩ := q
 dsimp only at C2 ⊢
 have hi := getElem?_lt hf
 obtain ⟨b2, o2, f', hB, hb2, hfi, k0, k1, k2, k3, k4⟩ := hx.f.frame hi
 obtain rfl : f' = f := by rw [hf] at hfi; injection hfi with hfi; exact hfi.symm
 have PF : Hid (∀ w', Ex w w' → w'.cell? ⟨b2, o2 + i * 5 + 3, none⟩ = some (.int .i64 f'.rights)) := zq (fun w' h => (h.cell hb2).trans k3)
 have hin : (i : Int) < (m.table.frames.length : Int) := by omega
 have hi0 : ¬ (i : Int) < 0 := by omega
 obtain ⟨A, c, B, d, L, ee, O, g⟩ := a
 dsimp only at hB C1 C2 ⊢
 subst hB
 clear hw hx hc hk h hf hfi k0 k1 k2 k3 k4
 go_enter Tryz.func105, Tryz.ntmps105
 go_wp2_with fail
 refine name_calls ?_; intro v1 hv1
 have X1 : Hid (Chg (0) (0) w v1) := zx hv1
 have t1 := X1.out.size
 have Ev1 := zq ((Ex.refl w).chg X1.out (by omega))
 have KX : Hid (Blk v1 (w.heap.size) 34 [.slice A m.table.buckets.length c, .slice (some ⟨b2, o2, none⟩) m.table.frames.length d, .slice L m.cache.lines.length ee, .int .i64 m.cache.hand, .int .i64 m.tags.count, .int .i64 m.tags.next, .int .i64 m.tags.round, .slice O m.tags.owns.length g, .int .i64 m.space]) := zk hv1
 have lX : w.heap.size < v1.heap.size := KX.out.lt
 have KR : Hid (Blk v1 (w.heap.size + 1) 34 [.slice none 0 0, .slice none 0 0, .slice none 0 0, .int .i64 0, .int .i64 0, .int .i64 0, .int .i64 0, .slice none 0 0, .int .i64 0]) := zk hv1
 have lR : w.heap.size + 1 < v1.heap.size := KR.out.lt
 clear hv1
 refine (C1.out _ Ev1.out).mono ?_; rintro r w1 ⟨a1, rfl, ⟨hfa, hfb, hfc, hfd⟩, hb1⟩
 have Y1 := zq (Chg.of_ex hb1)
 have s1 := Y1.out.size
 have Ew1 := zq (Ev1.out.chg Y1.out (by omega))
 clear hb1
 replace KX := zq (KX.out.chg Y1.out (by omega))
 replace KR := zq (KR.out.chg Y1.out (by omega))
 have HFA := zq hfa; clear hfa
 have WHFA := zq HFA.out.row
 have HFB := zq hfb; clear hfb
 have WHFB := zq HFB.out.row
 have HFC := zq hfc; clear hfc
 have WHFC := zq HFC.out.row
 have HFD := zq hfd; clear hfd
 have WHFD := zq HFD.out.row
 obtain ⟨qX0, qX1, qX2, qX3, qX4, qX5, qX6, qX7, qX8⟩ := KX.out.c9
 have jX := KX.out.lt
 obtain ⟨qR0, qR1, qR2, qR3, qR4, qR5, qR6, qR7, qR8⟩ := KR.out.c9
 have jR := KR.out.lt
 have zR := KR.out.frozen
 have pf := PF.out _ Ew1.out
 have hb2' : b2 < w1.heap.size := by omega
 go_wp2_with fail
 refine name_calls ?_; intro v2 hv2
 have X2 : Hid (Chg (0) (0) w1 v2) := zx hv2
 have t2 := X2.out.size
 have Ev2 := zq (Ew1.out.chg X2.out (by omega))
 clear qX0 qX1 qX2 qX3 qX4 qX5 qX6 qX7 qX8 jX
 clear qR0 qR1 qR2 qR3 qR4 qR5 qR6 qR7 qR8 jR zR
 replace KX := zq (KX.out.chg X2.out (by omega))
 replace KR := zq (KR.out.chg X2.out (by omega))
 replace HFA := zq (HFA.out.chg X2.out WHFA.out (by omega))
 replace HFB := zq (HFB.out.chg X2.out WHFB.out (by omega))
 replace HFC := zq (HFC.out.chg X2.out WHFC.out (by omega))
 replace HFD := zq (HFD.out.chg X2.out WHFD.out (by omega))
 have KO : Hid (Blk v2 (w1.heap.size) 34 [.slice a1.b m.table.buckets.length a1.bc, .slice a1.f m.table.frames.length a1.fc, .slice a1.l m.cache.lines.length a1.lc, .int .i64 m.cache.hand, .int .i64 m.tags.count, .int .i64 m.tags.next, .int .i64 m.tags.round, .slice a1.o m.tags.owns.length a1.oc, .int .i64 m.space]) := zk hv2
 have lO : w1.heap.size < v2.heap.size := KO.out.lt
 have KN : Hid (Blk v2 (w1.heap.size + 1) 64 [.bool true, .int .i64 t, .int .i64 p, .int .i64 i, .int .i64 f'.rights, .bool false]) := zk hv2
 have lN : w1.heap.size + 1 < v2.heap.size := KN.out.lt
 clear hv2
 refine (C2.out _ Ev2.out).mono ?_; rintro r w2 ⟨A2, c2, rfl, hf2, hb2⟩
 have Y2 := zq (Chg.of_ex hb2)
 have s2 := Y2.out.size
 have Ew2 := zq (Ev2.out.chg Y2.out (by omega))
 clear hb2
 replace KX := zq (KX.out.chg Y2.out (by omega))
 replace KR := zq (KR.out.chg Y2.out (by omega))
 replace KO := zq (KO.out.chg Y2.out (by omega))
 replace KN := zq (KN.out.chg Y2.out (by omega))
 replace HFA := zq (HFA.out.chg Y2.out WHFA.out (by omega))
 replace HFB := zq (HFB.out.chg Y2.out WHFB.out (by omega))
 replace HFC := zq (HFC.out.chg Y2.out WHFC.out (by omega))
 replace HFD := zq (HFD.out.chg Y2.out WHFD.out (by omega))
 have HF2 := zq hf2; clear hf2
 have WHF2 := zq HF2.out.row
 obtain ⟨qX0, qX1, qX2, qX3, qX4, qX5, qX6, qX7, qX8⟩ := KX.out.c9
 have jX := KX.out.lt
 obtain ⟨qR0, qR1, qR2, qR3, qR4, qR5, qR6, qR7, qR8⟩ := KR.out.c9
 have jR := KR.out.lt
 have zR := KR.out.frozen
 obtain ⟨qO0, qO1, qO2, qO3, qO4, qO5, qO6, qO7, qO8⟩ := KO.out.c9
 have jO := KO.out.lt
 have zO := KO.out.frozen
 obtain ⟨qN0, qN1, qN2, qN3, qN4, qN5⟩ := KN.out.c6
 have jN := KN.out.lt
 clear pf
 have hne1 : ¬ w1.heap.size = w.heap.size + 1 := by omega
 have hne2 : ¬ w.heap.size + 1 = w1.heap.size := by omega
 have hne3 : ¬ w1.heap.size = w2.heap.size := by omega
 have hne4 : ¬ w2.heap.size = w1.heap.size := by omega
 go_wp2
 exact bodyPost_ret (v := .tuple #[.agg #[.slice (⟨a1.b, a1.bc, a1.f, a1.fc, A2, c2, a1.o, a1.oc⟩ : MA).b (⟨m.table, fc, m.tags, m.space⟩ : MachD).table.buckets.length (⟨a1.b, a1.bc, a1.f, a1.fc, A2, c2, a1.o, a1.oc⟩ : MA).bc, .slice (⟨a1.b, a1.bc, a1.f, a1.fc, A2, c2, a1.o, a1.oc⟩ : MA).f (⟨m.table, fc, m.tags, m.space⟩ : MachD).table.frames.length (⟨a1.b, a1.bc, a1.f, a1.fc, A2, c2, a1.o, a1.oc⟩ : MA).fc, .slice (⟨a1.b, a1.bc, a1.f, a1.fc, A2, c2, a1.o, a1.oc⟩ : MA).l (⟨m.table, fc, m.tags, m.space⟩ : MachD).cache.lines.length (⟨a1.b, a1.bc, a1.f, a1.fc, A2, c2, a1.o, a1.oc⟩ : MA).lc, .int .i64 (⟨m.table, fc, m.tags, m.space⟩ : MachD).cache.hand, .int .i64 (⟨m.table, fc, m.tags, m.space⟩ : MachD).tags.count, .int .i64 (⟨m.table, fc, m.tags, m.space⟩ : MachD).tags.next, .int .i64 (⟨m.table, fc, m.tags, m.space⟩ : MachD).tags.round, .slice (⟨a1.b, a1.bc, a1.f, a1.fc, A2, c2, a1.o, a1.oc⟩ : MA).o (⟨m.table, fc, m.tags, m.space⟩ : MachD).tags.owns.length (⟨a1.b, a1.bc, a1.f, a1.fc, A2, c2, a1.o, a1.oc⟩ : MA).oc, .int .i64 (⟨m.table, fc, m.tags, m.space⟩ : MachD).space], .int .i64 at_]) (by simp [results, Tryz.results105, go_sem, *]) rfl
  ⟨⟨a1.b, a1.bc, a1.f, a1.fc, A2, c2, a1.o, a1.oc⟩, rfl, ⟨(Fr.mono (zp HFA.out WHFA.out) (by omega)), (Fr.mono (zp HFB.out WHFB.out) (by omega)), (Fr.mono (zp HF2.out WHF2.out) (by omega)), (Fr.mono (zp HFD.out WHFD.out) (by omega))⟩, (ze Ew2.out)⟩

theorem Blk.put9 {w : World} {g : Nat} {t : TypeId} {a0 a1 a2 a3 a4 a5 a6 a7 a8 b0 b1 b2 b3 b4 b5 b6 b7 b8 : Value} (h : Blk w g t [a0, a1, a2, a3, a4, a5, a6, a7, a8]) :
  Blk (((((((((w.setCell ⟨g, 0, none⟩ b0).setCell ⟨g, 1, none⟩ b1).setCell ⟨g, 2, none⟩ b2).setCell ⟨g, 3, none⟩ b3).setCell ⟨g, 4, none⟩ b4).setCell ⟨g, 5, none⟩ b5).setCell ⟨g, 6, none⟩ b6).setCell ⟨g, 7, none⟩ b7).setCell ⟨g, 8, none⟩ b8) g t [b0, b1, b2, b3, b4, b5, b6, b7, b8] :=
 ((((((((h.set 0 b0).set 1 b1).set 2 b2).set 3 b3).set 4 b4).set 5 b5).set 6 b6).set 7 b7).set 8 b8

/-- What a touch hands back. -/
def Touched (m : MachD) (p : Int) (w : World) (e : Ending) (w' : World) : Prop := ∃ (a : MA) (oc : Int), e = .returned (.tuple #[.agg #[.slice a.b (touchM m p).table.buckets.length a.bc, .slice a.f (touchM m p).table.frames.length a.fc, .slice a.l (touchM m p).cache.lines.length a.lc, .int .i64 (touchM m p).cache.hand, .int .i64 (touchM m p).tags.count, .int .i64 (touchM m p).tags.next, .int .i64 (touchM m p).tags.round, .slice a.o (touchM m p).tags.owns.length a.oc, .int .i64 (touchM m p).space], .int .i64 (touchF m p), .int .i64 oc, .bool true]) ∧ FrM w' w.heap.size (touchM m p) a ∧ (1 ≤ oc ∧ oc ≤ 4) ∧ (oc = 3 ↔ missM m p = true) ∧ Ex w w'

set_option maxHeartbeats 8000000 in
theorem touchS_c (m : MachD) (a : MA) (p n : Int) (w : World) (h : MachOk m) (hx : HasM w m a) (hc : CapM m a) (hk : CapX a) (hp : 0 ≤ p ∧ p < 256) (hn : 0 ≤ n ∧ n < 8) :
  Calls Tryz.prog 92 #[.agg #[.slice a.b m.table.buckets.length a.bc, .slice a.f m.table.frames.length a.fc, .slice a.l m.cache.lines.length a.lc, .int .i64 m.cache.hand, .int .i64 m.tags.count, .int .i64 m.tags.next, .int .i64 m.tags.round, .slice a.o m.tags.owns.length a.oc, .int .i64 m.space], .int .i64 p, .int .i64 n] w (Touched m p w) := by
 have hf := h.fewM
 have C1 := zq (fun w' (e : Ex w w') => machS_c m a w' (hx.ex e) hf hc)
 have C2 := zq (fun w' => l1Page_c p w')
 have C3 := zq (fun w' => rightsS_c n w')
 rw [machV_yes h] at C1
 rw [inB_true.2 hp] at C2
 rw [inB_true.2 hn] at C3
 have C4 := zq (fun w' (e : Ex w w') => tagS_c m a m.space p w' h (hx.ex e))
 have C5 := zq (fun w' (e : Ex w w') => l6Copy_c m a w' (hx.ex e) hf hc hk)
 have C6 := zq (fun w' (e : Ex w w') => l4Find_c m.cache (tagFor m m.space p).1 p a.l a.lc w' (hx.l.ex e) hf.l)
 have C7 := zq (fun w' => keyForS_c m.space p w')
 have C8 := zq (fun w' (e : Ex w w') => l3Find_c m.table a.b a.bc a.f a.fc (keyFor m.space p) w' (hx.b.ex e) (hx.f.ex e) h.1.1 (keyFor_ok h.space hp))
 have C9 := zq (fun r w' => allowsS_c r n w')
 have CF := zq (fun (i : Nat) (f : FrameD) (hfr : m.table.frames[i]? = some f) w' (e : Ex w w') => fillS6_c m a p i (tagFor m m.space p).1 w' h (hx.ex e) hc hk hfr)
 have HT := zq (fun (hm : missM m p = false) => touchF_ok h hm)
 have HX := zq hx
 obtain ⟨A, c, B, d, L, ee, O, g⟩ := a
 dsimp only at C1 C4 C5 C6 C8 CF ⊢
 have HXF : Hid (Rd w B m.table.frames) := zq HX.out.f
 have HXL : Hid (Rd w L m.cache.lines) := zq HX.out.l
 clear hf hx HX hc hk h hp hn
 by_cases h1 : 0 ≤ hitAt m p
 · -- the line is there
  have hms : missM m p = false := by unfold missM; rw [decide_eq_false (by omega)]; rfl
  obtain ⟨i, f, e1, hfi, _⟩ := HT.out hms
  have HQ : Hid (touchM m p = m) := zq (by unfold touchM; rw [if_pos h1])
  have HM3 : Hid ((4 : Int) = 3 ↔ missM m p = true) := zq (by rw [hms]; simp)
  have HM1 : Hid ((1 : Int) = 3 ↔ missM m p = true) := zq (by rw [hms]; simp)
  rcases hit_or m p with ⟨e, _⟩ | ⟨v, x, e, hvx, _⟩
  ·omega
  have e2 : x.frame = (i : Int) := by rw [← e1]; unfold touchF; rw [if_pos h1, e, Int.toNat_natCast, getD_of hvx]
  unfold Touched
  rw [HQ.out, e1]
  unfold hitAt at e
  rw [e] at C6
  have hvl := getElem?_lt hvx
  have hil := getElem?_lt hfi
  obtain ⟨b3, o3, x', rfl, hb3, hvx', q0, q1, q2, q3, q4, q5⟩ := HXL.out.line hvl
  obtain rfl : x' = x := by rw [hvx] at hvx'; injection hvx' with q; exact q.symm
  obtain ⟨b2, o2, f', rfl, hb2, hfi', k0, k1, k2, k3, k4⟩ := HXF.out.frame hil
  obtain rfl : f' = f := by rw [hfi] at hfi'; injection hfi' with q; exact q.symm
  have PK : Hid (∀ w', Ex w w' → w'.cell? ⟨b2, o2 + i * 5 + 3, none⟩ = some (.int .i64 f'.rights) ∧ w'.cell? ⟨b3, o3 + v * 6 + 3, none⟩ = some (.int .i64 i)) := zq (fun w' h => ⟨(h.cell hb2).trans k3, (h.cell hb3).trans (by rw [q3, e2])⟩)
  have hv' : (v : Int) < (m.cache.lines.length : Int) := by omega
  have hv0 : ¬ (v : Int) < 0 := by omega
  have hi' : (i : Int) < (m.table.frames.length : Int) := by omega
  have hi0 : ¬ (i : Int) < 0 := by omega
  clear e e1 e2 hms h1 hfi hfi' hvx hvx' q0 q1 q2 q3 q4 q5 k0 k1 k2 k3 k4 HT C7 C8 CF
  generalize tagFor m m.space p = tg at C4 C6
  obtain ⟨tg, tk⟩ := tg
  dsimp only at C4 C6
  go_enter Tryz.func92, Tryz.ntmps92
  go_wp2_with fail
  refine name_calls ?_; intro v1 hv1
  have X1 : Hid (Chg (0) (0) w v1) := zx hv1
  have t1 := X1.out.size
  have Ev1 := zq ((Ex.refl w).chg X1.out (by omega))
  have KX : Hid (Blk v1 (w.heap.size) 34 [.slice A m.table.buckets.length c, .slice (some ⟨b2, o2, none⟩) m.table.frames.length d, .slice (some ⟨b3, o3, none⟩) m.cache.lines.length ee, .int .i64 m.cache.hand, .int .i64 m.tags.count, .int .i64 m.tags.next, .int .i64 m.tags.round, .slice O m.tags.owns.length g, .int .i64 m.space]) := zk hv1
  have lX : w.heap.size < v1.heap.size := KX.out.lt
  have KR : Hid (Blk v1 (w.heap.size + 1) 34 [.slice none 0 0, .slice none 0 0, .slice none 0 0, .int .i64 0, .int .i64 0, .int .i64 0, .int .i64 0, .slice none 0 0, .int .i64 0]) := zk hv1
  have lR : w.heap.size + 1 < v1.heap.size := KR.out.lt
  clear hv1
  refine (C1.out _ Ev1.out).mono ?_; rintro r w1 ⟨rfl, hb1⟩
  have Y1 := zq (Chg.of_ex hb1)
  have s1 := Y1.out.size
  have Ew1 := zq (Ev1.out.chg Y1.out (by omega))
  clear hb1
  replace KX := zq (KX.out.chg Y1.out (by omega))
  replace KR := zq (KR.out.chg Y1.out (by omega))
  obtain ⟨qX0, qX1, qX2, qX3, qX4, qX5, qX6, qX7, qX8⟩ := KX.out.c9
  have jX := KX.out.lt
  obtain ⟨qR0, qR1, qR2, qR3, qR4, qR5, qR6, qR7, qR8⟩ := KR.out.c9
  have jR := KR.out.lt
  have zR := KR.out.frozen
  go_wp2_with fail
  refine (C2.out _).mono ?_; rintro r wq2 ⟨rfl, rfl⟩
  go_wp2_with fail
  refine (C3.out _).mono ?_; rintro r wq3 ⟨rfl, rfl⟩
  go_wp2_with fail
  refine name_calls ?_; intro v4 hv4
  have X4 : Hid (Chg (0) (0) w1 v4) := zx hv4
  have t4 := X4.out.size
  have Ev4 := zq (Ew1.out.chg X4.out (by omega))
  clear qX0 qX1 qX2 qX3 qX4 qX5 qX6 qX7 qX8 jX
  clear qR0 qR1 qR2 qR3 qR4 qR5 qR6 qR7 qR8 jR zR
  replace KX := zq (KX.out.chg X4.out (by omega))
  replace KR := zq (KR.out.chg X4.out (by omega))
  clear hv4
  refine (C4.out _ Ev4.out).mono ?_; rintro r w4 ⟨rfl, hb4⟩
  have Y4 := zq (Chg.of_ex hb4)
  have s4 := Y4.out.size
  have Ew4 := zq (Ev4.out.chg Y4.out (by omega))
  clear hb4
  replace KX := zq (KX.out.chg Y4.out (by omega))
  replace KR := zq (KR.out.chg Y4.out (by omega))
  obtain ⟨qX0, qX1, qX2, qX3, qX4, qX5, qX6, qX7, qX8⟩ := KX.out.c9
  have jX := KX.out.lt
  obtain ⟨qR0, qR1, qR2, qR3, qR4, qR5, qR6, qR7, qR8⟩ := KR.out.c9
  have jR := KR.out.lt
  have zR := KR.out.frozen
  go_wp2_with fail
  refine name_calls ?_; intro v5 hv5
  have X5 : Hid (Chg (0) (0) w4 v5) := zx hv5
  have t5 := X5.out.size
  have Ev5 := zq (Ew4.out.chg X5.out (by omega))
  clear qX0 qX1 qX2 qX3 qX4 qX5 qX6 qX7 qX8 jX
  clear qR0 qR1 qR2 qR3 qR4 qR5 qR6 qR7 qR8 jR zR
  replace KX := zq (KX.out.chg X5.out (by omega))
  replace KR := zq (KR.out.chg X5.out (by omega))
  clear hv5
  refine (C5.out _ Ev5.out).mono ?_; rintro r w5 ⟨a5, rfl, ⟨hfa, hfb, hfc, hfd⟩, hb5⟩
  have Y5 := zq (Chg.of_ex hb5)
  have s5 := Y5.out.size
  have Ew5 := zq (Ev5.out.chg Y5.out (by omega))
  clear hb5
  replace KX := zq (KX.out.chg Y5.out (by omega))
  replace KR := zq (KR.out.chg Y5.out (by omega))
  have HFA := zq hfa; clear hfa
  have WHFA := zq HFA.out.row
  have HFB := zq hfb; clear hfb
  have WHFB := zq HFB.out.row
  have HFC := zq hfc; clear hfc
  have WHFC := zq HFC.out.row
  have HFD := zq hfd; clear hfd
  have WHFD := zq HFD.out.row
  obtain ⟨qX0, qX1, qX2, qX3, qX4, qX5, qX6, qX7, qX8⟩ := KX.out.c9
  have jX := KX.out.lt
  obtain ⟨qR0, qR1, qR2, qR3, qR4, qR5, qR6, qR7, qR8⟩ := KR.out.c9
  have jR := KR.out.lt
  have zR := KR.out.frozen
  go_wp2_with fail
  refine name_calls ?_; intro v6 hv6
  have X6 : Hid (Chg (0) (0) w5 v6) := zx hv6
  have t6 := X6.out.size
  have Ev6 := zq (Ew5.out.chg X6.out (by omega))
  clear qX0 qX1 qX2 qX3 qX4 qX5 qX6 qX7 qX8 jX
  clear qR0 qR1 qR2 qR3 qR4 qR5 qR6 qR7 qR8 jR zR
  replace KX := zq (KX.out.chg X6.out (by omega))
  replace KR := zq (KR.out.chg X6.out (by omega))
  replace HFA := zq (HFA.out.chg X6.out WHFA.out (by omega))
  replace HFB := zq (HFB.out.chg X6.out WHFB.out (by omega))
  replace HFC := zq (HFC.out.chg X6.out WHFC.out (by omega))
  replace HFD := zq (HFD.out.chg X6.out WHFD.out (by omega))
  have KO : Hid (Blk v6 (w5.heap.size) 34 [.slice a5.b m.table.buckets.length a5.bc, .slice a5.f m.table.frames.length a5.fc, .slice a5.l m.cache.lines.length a5.lc, .int .i64 m.cache.hand, .int .i64 m.tags.count, .int .i64 m.tags.next, .int .i64 m.tags.round, .slice a5.o m.tags.owns.length a5.oc, .int .i64 m.space]) := zk hv6
  have lO : w5.heap.size < v6.heap.size := KO.out.lt
  clear hv6
  refine (C6.out _ Ev6.out).mono ?_; rintro r w6 ⟨rfl, hb6⟩
  have Y6 := zq (Chg.of_ex hb6)
  have s6 := Y6.out.size
  have Ew6 := zq (Ev6.out.chg Y6.out (by omega))
  clear hb6
  replace KX := zq (KX.out.chg Y6.out (by omega))
  replace KR := zq (KR.out.chg Y6.out (by omega))
  replace KO := zq (KO.out.chg Y6.out (by omega))
  replace HFA := zq (HFA.out.chg Y6.out WHFA.out (by omega))
  replace HFB := zq (HFB.out.chg Y6.out WHFB.out (by omega))
  replace HFC := zq (HFC.out.chg Y6.out WHFC.out (by omega))
  replace HFD := zq (HFD.out.chg Y6.out WHFD.out (by omega))
  obtain ⟨qX0, qX1, qX2, qX3, qX4, qX5, qX6, qX7, qX8⟩ := KX.out.c9
  have jX := KX.out.lt
  obtain ⟨qR0, qR1, qR2, qR3, qR4, qR5, qR6, qR7, qR8⟩ := KR.out.c9
  have jR := KR.out.lt
  have zR := KR.out.frozen
  obtain ⟨qO0, qO1, qO2, qO3, qO4, qO5, qO6, qO7, qO8⟩ := KO.out.c9
  have jO := KO.out.lt
  have zO := KO.out.frozen
  have hne1 : ¬ w5.heap.size = w.heap.size + 1 := by omega
  have hne2 : ¬ w.heap.size + 1 = w5.heap.size := by omega
  obtain ⟨pk, pl⟩ := PK.out _ Ew6.out
  have hb2' : b2 < w6.heap.size := by omega
  have hb3' : b3 < w6.heap.size := by omega
  go_wp2_with fail
  refine name_calls ?_; intro v9 hv9
  have X9 : Hid (Chg (0) (0) w6 v9) := zx hv9
  have t9 := X9.out.size
  have Ev9 := zq (Ew6.out.chg X9.out (by omega))
  clear qX0 qX1 qX2 qX3 qX4 qX5 qX6 qX7 qX8 jX
  clear qR0 qR1 qR2 qR3 qR4 qR5 qR6 qR7 qR8 jR zR
  clear qO0 qO1 qO2 qO3 qO4 qO5 qO6 qO7 qO8 jO zO
  replace KX := zq (KX.out.chg X9.out (by omega))
  replace KR := zq (KR.out.chg X9.out (by omega))
  replace KO := zq (KO.out.chg X9.out (by omega))
  replace HFA := zq (HFA.out.chg X9.out WHFA.out (by omega))
  replace HFB := zq (HFB.out.chg X9.out WHFB.out (by omega))
  replace HFC := zq (HFC.out.chg X9.out WHFC.out (by omega))
  replace HFD := zq (HFD.out.chg X9.out WHFD.out (by omega))
  clear hv9
  refine (C9.out _ _).mono ?_; rintro r w9 ⟨⟨al, rfl⟩, hb9⟩
  have Y9 := zq (Chg.of_ex hb9)
  have s9 := Y9.out.size
  have Ew9 := zq (Ev9.out.chg Y9.out (by omega))
  clear hb9
  replace KX := zq (KX.out.chg Y9.out (by omega))
  replace KR := zq (KR.out.chg Y9.out (by omega))
  replace KO := zq (KO.out.chg Y9.out (by omega))
  replace HFA := zq (HFA.out.chg Y9.out WHFA.out (by omega))
  replace HFB := zq (HFB.out.chg Y9.out WHFB.out (by omega))
  replace HFC := zq (HFC.out.chg Y9.out WHFC.out (by omega))
  replace HFD := zq (HFD.out.chg Y9.out WHFD.out (by omega))
  obtain ⟨qX0, qX1, qX2, qX3, qX4, qX5, qX6, qX7, qX8⟩ := KX.out.c9
  have jX := KX.out.lt
  obtain ⟨qR0, qR1, qR2, qR3, qR4, qR5, qR6, qR7, qR8⟩ := KR.out.c9
  have jR := KR.out.lt
  have zR := KR.out.frozen
  obtain ⟨qO0, qO1, qO2, qO3, qO4, qO5, qO6, qO7, qO8⟩ := KO.out.c9
  have jO := KO.out.lt
  have zO := KO.out.frozen
  cases al
  ·go_wp2
   exact bodyPost_ret (v := .tuple #[.agg #[.slice a5.b m.table.buckets.length a5.bc, .slice a5.f m.table.frames.length a5.fc, .slice a5.l m.cache.lines.length a5.lc, .int .i64 m.cache.hand, .int .i64 m.tags.count, .int .i64 m.tags.next, .int .i64 m.tags.round, .slice a5.o m.tags.owns.length a5.oc, .int .i64 m.space], .int .i64 i, .int .i64 4, .bool true]) (by simp [results, Tryz.results92, go_sem, *]) rfl
    ⟨a5, 4, rfl, ⟨(Fr.mono (zp HFA.out WHFA.out) (by omega)), (Fr.mono (zp HFB.out WHFB.out) (by omega)), (Fr.mono (zp HFC.out WHFC.out) (by omega)), (Fr.mono (zp HFD.out WHFD.out) (by omega))⟩, by omega, HM3.out, (ze Ew9.out)⟩
  ·go_wp2
   exact bodyPost_ret (v := .tuple #[.agg #[.slice a5.b m.table.buckets.length a5.bc, .slice a5.f m.table.frames.length a5.fc, .slice a5.l m.cache.lines.length a5.lc, .int .i64 m.cache.hand, .int .i64 m.tags.count, .int .i64 m.tags.next, .int .i64 m.tags.round, .slice a5.o m.tags.owns.length a5.oc, .int .i64 m.space], .int .i64 i, .int .i64 1, .bool true]) (by simp [results, Tryz.results92, go_sem, *]) rfl
    ⟨a5, 1, rfl, ⟨(Fr.mono (zp HFA.out WHFA.out) (by omega)), (Fr.mono (zp HFB.out WHFB.out) (by omega)), (Fr.mono (zp HFC.out WHFC.out) (by omega)), (Fr.mono (zp HFD.out WHFD.out) (by omega))⟩, by omega, HM1.out, (ze Ew9.out)⟩
 by_cases h2 : findF m.table (keyFor m.space p) < 0
 · -- the page is not there
  have HQ : Hid (touchM m p = m) := zq (by unfold touchM; rw [if_neg h1, if_pos h2])
  have HQF : Hid (touchF m p = 0) := zq (by unfold touchF; rw [if_neg h1, if_pos h2])
  have HM3 : Hid (missM m p = true) := zq (by unfold missM; rw [decide_eq_true h2, decide_eq_true (show hitAt m p < 0 by omega)]; rfl)
  have e : placeOf m.cache.lines (tagFor m m.space p).1 p = -1 := by
   rcases hit_or m p with ⟨e, _⟩ | ⟨v, x, e, hvx, _⟩
   ·exact e
   ·omega
  unfold Touched
  rw [HQ.out, HQF.out]
  rw [e] at C6
  clear e h1 HT CF C9 HXF HXL
  generalize findF m.table (keyFor m.space p) = ff at h2 C8
  have h2' : ¬ 0 ≤ ff := by omega
  generalize keyFor m.space p = kf at C7 C8
  generalize tagFor m m.space p = tg at C4 C6
  obtain ⟨tg, tk⟩ := tg
  dsimp only at C4 C6
  go_enter Tryz.func92, Tryz.ntmps92
  go_wp2_with fail
  refine name_calls ?_; intro v1 hv1
  have X1 : Hid (Chg (0) (0) w v1) := zx hv1
  have t1 := X1.out.size
  have Ev1 := zq ((Ex.refl w).chg X1.out (by omega))
  have KX : Hid (Blk v1 (w.heap.size) 34 [.slice A m.table.buckets.length c, .slice B m.table.frames.length d, .slice L m.cache.lines.length ee, .int .i64 m.cache.hand, .int .i64 m.tags.count, .int .i64 m.tags.next, .int .i64 m.tags.round, .slice O m.tags.owns.length g, .int .i64 m.space]) := zk hv1
  have lX : w.heap.size < v1.heap.size := KX.out.lt
  have KR : Hid (Blk v1 (w.heap.size + 1) 34 [.slice none 0 0, .slice none 0 0, .slice none 0 0, .int .i64 0, .int .i64 0, .int .i64 0, .int .i64 0, .slice none 0 0, .int .i64 0]) := zk hv1
  have lR : w.heap.size + 1 < v1.heap.size := KR.out.lt
  clear hv1
  refine (C1.out _ Ev1.out).mono ?_; rintro r w1 ⟨rfl, hb1⟩
  have Y1 := zq (Chg.of_ex hb1)
  have s1 := Y1.out.size
  have Ew1 := zq (Ev1.out.chg Y1.out (by omega))
  clear hb1
  replace KX := zq (KX.out.chg Y1.out (by omega))
  replace KR := zq (KR.out.chg Y1.out (by omega))
  obtain ⟨qX0, qX1, qX2, qX3, qX4, qX5, qX6, qX7, qX8⟩ := KX.out.c9
  have jX := KX.out.lt
  obtain ⟨qR0, qR1, qR2, qR3, qR4, qR5, qR6, qR7, qR8⟩ := KR.out.c9
  have jR := KR.out.lt
  have zR := KR.out.frozen
  go_wp2_with fail
  refine (C2.out _).mono ?_; rintro r wq2 ⟨rfl, rfl⟩
  go_wp2_with fail
  refine (C3.out _).mono ?_; rintro r wq3 ⟨rfl, rfl⟩
  go_wp2_with fail
  refine name_calls ?_; intro v4 hv4
  have X4 : Hid (Chg (0) (0) w1 v4) := zx hv4
  have t4 := X4.out.size
  have Ev4 := zq (Ew1.out.chg X4.out (by omega))
  clear qX0 qX1 qX2 qX3 qX4 qX5 qX6 qX7 qX8 jX
  clear qR0 qR1 qR2 qR3 qR4 qR5 qR6 qR7 qR8 jR zR
  replace KX := zq (KX.out.chg X4.out (by omega))
  replace KR := zq (KR.out.chg X4.out (by omega))
  clear hv4
  refine (C4.out _ Ev4.out).mono ?_; rintro r w4 ⟨rfl, hb4⟩
  have Y4 := zq (Chg.of_ex hb4)
  have s4 := Y4.out.size
  have Ew4 := zq (Ev4.out.chg Y4.out (by omega))
  clear hb4
  replace KX := zq (KX.out.chg Y4.out (by omega))
  replace KR := zq (KR.out.chg Y4.out (by omega))
  obtain ⟨qX0, qX1, qX2, qX3, qX4, qX5, qX6, qX7, qX8⟩ := KX.out.c9
  have jX := KX.out.lt
  obtain ⟨qR0, qR1, qR2, qR3, qR4, qR5, qR6, qR7, qR8⟩ := KR.out.c9
  have jR := KR.out.lt
  have zR := KR.out.frozen
  go_wp2_with fail
  refine name_calls ?_; intro v5 hv5
  have X5 : Hid (Chg (0) (0) w4 v5) := zx hv5
  have t5 := X5.out.size
  have Ev5 := zq (Ew4.out.chg X5.out (by omega))
  clear qX0 qX1 qX2 qX3 qX4 qX5 qX6 qX7 qX8 jX
  clear qR0 qR1 qR2 qR3 qR4 qR5 qR6 qR7 qR8 jR zR
  replace KX := zq (KX.out.chg X5.out (by omega))
  replace KR := zq (KR.out.chg X5.out (by omega))
  clear hv5
  refine (C5.out _ Ev5.out).mono ?_; rintro r w5 ⟨a5, rfl, ⟨hfa, hfb, hfc, hfd⟩, hb5⟩
  have Y5 := zq (Chg.of_ex hb5)
  have s5 := Y5.out.size
  have Ew5 := zq (Ev5.out.chg Y5.out (by omega))
  clear hb5
  replace KX := zq (KX.out.chg Y5.out (by omega))
  replace KR := zq (KR.out.chg Y5.out (by omega))
  have HFA := zq hfa; clear hfa
  have WHFA := zq HFA.out.row
  have HFB := zq hfb; clear hfb
  have WHFB := zq HFB.out.row
  have HFC := zq hfc; clear hfc
  have WHFC := zq HFC.out.row
  have HFD := zq hfd; clear hfd
  have WHFD := zq HFD.out.row
  obtain ⟨qX0, qX1, qX2, qX3, qX4, qX5, qX6, qX7, qX8⟩ := KX.out.c9
  have jX := KX.out.lt
  obtain ⟨qR0, qR1, qR2, qR3, qR4, qR5, qR6, qR7, qR8⟩ := KR.out.c9
  have jR := KR.out.lt
  have zR := KR.out.frozen
  go_wp2_with fail
  refine name_calls ?_; intro v6 hv6
  have X6 : Hid (Chg (0) (0) w5 v6) := zx hv6
  have t6 := X6.out.size
  have Ev6 := zq (Ew5.out.chg X6.out (by omega))
  clear qX0 qX1 qX2 qX3 qX4 qX5 qX6 qX7 qX8 jX
  clear qR0 qR1 qR2 qR3 qR4 qR5 qR6 qR7 qR8 jR zR
  replace KX := zq (KX.out.chg X6.out (by omega))
  replace KR := zq (KR.out.chg X6.out (by omega))
  replace HFA := zq (HFA.out.chg X6.out WHFA.out (by omega))
  replace HFB := zq (HFB.out.chg X6.out WHFB.out (by omega))
  replace HFC := zq (HFC.out.chg X6.out WHFC.out (by omega))
  replace HFD := zq (HFD.out.chg X6.out WHFD.out (by omega))
  have KO : Hid (Blk v6 (w5.heap.size) 34 [.slice a5.b m.table.buckets.length a5.bc, .slice a5.f m.table.frames.length a5.fc, .slice a5.l m.cache.lines.length a5.lc, .int .i64 m.cache.hand, .int .i64 m.tags.count, .int .i64 m.tags.next, .int .i64 m.tags.round, .slice a5.o m.tags.owns.length a5.oc, .int .i64 m.space]) := zk hv6
  have lO : w5.heap.size < v6.heap.size := KO.out.lt
  clear hv6
  refine (C6.out _ Ev6.out).mono ?_; rintro r w6 ⟨rfl, hb6⟩
  have Y6 := zq (Chg.of_ex hb6)
  have s6 := Y6.out.size
  have Ew6 := zq (Ev6.out.chg Y6.out (by omega))
  clear hb6
  replace KX := zq (KX.out.chg Y6.out (by omega))
  replace KR := zq (KR.out.chg Y6.out (by omega))
  replace KO := zq (KO.out.chg Y6.out (by omega))
  replace HFA := zq (HFA.out.chg Y6.out WHFA.out (by omega))
  replace HFB := zq (HFB.out.chg Y6.out WHFB.out (by omega))
  replace HFC := zq (HFC.out.chg Y6.out WHFC.out (by omega))
  replace HFD := zq (HFD.out.chg Y6.out WHFD.out (by omega))
  obtain ⟨qX0, qX1, qX2, qX3, qX4, qX5, qX6, qX7, qX8⟩ := KX.out.c9
  have jX := KX.out.lt
  obtain ⟨qR0, qR1, qR2, qR3, qR4, qR5, qR6, qR7, qR8⟩ := KR.out.c9
  have jR := KR.out.lt
  have zR := KR.out.frozen
  obtain ⟨qO0, qO1, qO2, qO3, qO4, qO5, qO6, qO7, qO8⟩ := KO.out.c9
  have jO := KO.out.lt
  have zO := KO.out.frozen
  have hne1 : ¬ w5.heap.size = w.heap.size + 1 := by omega
  have hne2 : ¬ w.heap.size + 1 = w5.heap.size := by omega
  have FK : Hid (∀ w', Ex w6 w' → (w'.cell? ⟨w.heap.size, 0, none⟩ = some (.slice A m.table.buckets.length c) ∧ w'.cell? ⟨w.heap.size, 1, none⟩ = some (.slice B m.table.frames.length d) ∧ w'.cell? ⟨w.heap.size, 8, none⟩ = some (.int .i64 m.space))) := zq (fun w' h => ⟨(KX.out.ex h).c9.1, (KX.out.ex h).c9.2.1, (KX.out.ex h).c9.2.2.2.2.2.2.2.2⟩)
  go_wp2_with fail
  go_region_held3 (fun w' => (w'.cell? ⟨w.heap.size, 0, none⟩ = some (.slice A m.table.buckets.length c) ∧ w'.cell? ⟨w.heap.size, 1, none⟩ = some (.slice B m.table.frames.length d) ∧ w'.cell? ⟨w.heap.size, 8, none⟩ = some (.int .i64 m.space))) (first | (refine FK.out _ ?_; with_reducible (first | exact Ex.refl _ | exact (Ex.refl _).drew | exact hE1 | exact hE2)) | go_keep) (first
   | (go_at_call 80; (with_reducible refine (C7.out _).mono ?_); rintro r w7 ⟨rfl, hb7⟩; have hE1 := Ex.trans (Ex.refl _).drew hb7)
   | (go_at_call 79; (with_reducible refine (C8.out _ ?_).mono ?_); (exact Ew6.out.trans hE1); rintro r w8 ⟨⟨sp, rfl⟩, hb8⟩; have hE2 := Ex.trans hE1 hb8))
  rename_i hHeld
  have Y8 := zq (Chg.of_ex hE2)
  clear hHeld hE1 hE2 hb7 hb8 FK
  have s8 := Y8.out.size
  have Ew8 := zq (Ew6.out.chg Y8.out (by omega))
  clear qX0 qX1 qX2 qX3 qX4 qX5 qX6 qX7 qX8 jX
  clear qR0 qR1 qR2 qR3 qR4 qR5 qR6 qR7 qR8 jR zR
  clear qO0 qO1 qO2 qO3 qO4 qO5 qO6 qO7 qO8 jO zO
  replace KX := zq (KX.out.chg Y8.out (by omega))
  replace KR := zq (KR.out.chg Y8.out (by omega))
  replace KO := zq (KO.out.chg Y8.out (by omega))
  replace HFA := zq (HFA.out.chg Y8.out WHFA.out (by omega))
  replace HFB := zq (HFB.out.chg Y8.out WHFB.out (by omega))
  replace HFC := zq (HFC.out.chg Y8.out WHFC.out (by omega))
  replace HFD := zq (HFD.out.chg Y8.out WHFD.out (by omega))
  obtain ⟨qX0, qX1, qX2, qX3, qX4, qX5, qX6, qX7, qX8⟩ := KX.out.c9
  have jX := KX.out.lt
  obtain ⟨qR0, qR1, qR2, qR3, qR4, qR5, qR6, qR7, qR8⟩ := KR.out.c9
  have jR := KR.out.lt
  have zR := KR.out.frozen
  obtain ⟨qO0, qO1, qO2, qO3, qO4, qO5, qO6, qO7, qO8⟩ := KO.out.c9
  have jO := KO.out.lt
  have zO := KO.out.frozen
  go_wp2
  exact bodyPost_ret (v := .tuple #[.agg #[.slice a5.b m.table.buckets.length a5.bc, .slice a5.f m.table.frames.length a5.fc, .slice a5.l m.cache.lines.length a5.lc, .int .i64 m.cache.hand, .int .i64 m.tags.count, .int .i64 m.tags.next, .int .i64 m.tags.round, .slice a5.o m.tags.owns.length a5.oc, .int .i64 m.space], .int .i64 0, .int .i64 3, .bool true]) (by simp [results, Tryz.results92, go_sem, *]) rfl
   ⟨a5, 3, rfl, ⟨(Fr.mono (zp HFA.out WHFA.out) (by omega)), (Fr.mono (zp HFB.out WHFB.out) (by omega)), (Fr.mono (zp HFC.out WHFC.out) (by omega)), (Fr.mono (zp HFD.out WHFD.out) (by omega))⟩, by omega, ⟨fun _ => HM3.out, fun _ => rfl⟩, (ze Ew8.out)⟩
 · -- the line is filled in
  have hms : missM m p = false := missM_no h2
  have HQ : Hid (touchM m p = ⟨m.table, (fillLine m.cache (newL m p)).1, m.tags, m.space⟩) := zq (by unfold touchM; rw [if_neg h1, if_neg h2])
  have HM3 : Hid ((4 : Int) = 3 ↔ missM m p = true) := zq (by rw [hms]; simp)
  have HM1 : Hid ((2 : Int) = 3 ↔ missM m p = true) := zq (by rw [hms]; simp)
  have e : placeOf m.cache.lines (tagFor m m.space p).1 p = -1 := by
   rcases hit_or m p with ⟨e, _⟩ | ⟨v, x, e, hvx, _⟩
   ·exact e
   ·omega
  obtain ⟨i, f, e1, hfi, _⟩ := HT.out hms
  have e3 : findF m.table (keyFor m.space p) = (i : Int) := by rw [← e1]; unfold touchF; rw [if_neg h1, if_neg h2]
  have HL : newL m p = ⟨true, (tagFor m m.space p).1, p, (i : Int), f.rights, false⟩ := by unfold newL; rw [e3, Int.toNat_natCast, getD_of hfi]
  have C10 := zq (CF.out i f hfi)
  unfold Touched
  rw [HQ.out, HL, e1]
  rw [e] at C6
  rw [e3] at C8
  have hil := getElem?_lt hfi
  obtain ⟨b2, o2, f', rfl, hb2, hfi', k0, k1, k2, k3, k4⟩ := HXF.out.frame hil
  obtain rfl : f' = f := by rw [hfi] at hfi'; injection hfi' with q; exact q.symm
  have PK : Hid (∀ w', Ex w w' → w'.cell? ⟨b2, o2 + i * 5 + 3, none⟩ = some (.int .i64 f'.rights)) := zq (fun w' h => (h.cell hb2).trans k3)
  have hi' : (i : Int) < (m.table.frames.length : Int) := by omega
  have hi0 : ¬ (i : Int) < 0 := by omega
  clear e e1 e3 HL h1 h2 hms hfi hfi' k0 k1 k2 k3 k4 HT CF HXF HXL HQ
  generalize keyFor m.space p = kf at C7 C8
  generalize tagFor m m.space p = tg at C4 C6 C10 ⊢
  obtain ⟨tg, tk⟩ := tg
  dsimp only at C4 C6 C10 ⊢
  generalize fillLine m.cache ⟨true, tg, p, (i : Int), f'.rights, false⟩ = fl at C10 ⊢
  obtain ⟨fc, at_, fk⟩ := fl
  dsimp only at C10 ⊢
  go_enter Tryz.func92, Tryz.ntmps92
  go_wp2_with fail
  refine name_calls ?_; intro v1 hv1
  have X1 : Hid (Chg (0) (0) w v1) := zx hv1
  have t1 := X1.out.size
  have Ev1 := zq ((Ex.refl w).chg X1.out (by omega))
  have KX : Hid (Blk v1 (w.heap.size) 34 [.slice A m.table.buckets.length c, .slice (some ⟨b2, o2, none⟩) m.table.frames.length d, .slice L m.cache.lines.length ee, .int .i64 m.cache.hand, .int .i64 m.tags.count, .int .i64 m.tags.next, .int .i64 m.tags.round, .slice O m.tags.owns.length g, .int .i64 m.space]) := zk hv1
  have lX : w.heap.size < v1.heap.size := KX.out.lt
  have KR : Hid (Blk v1 (w.heap.size + 1) 34 [.slice none 0 0, .slice none 0 0, .slice none 0 0, .int .i64 0, .int .i64 0, .int .i64 0, .int .i64 0, .slice none 0 0, .int .i64 0]) := zk hv1
  have lR : w.heap.size + 1 < v1.heap.size := KR.out.lt
  clear hv1
  refine (C1.out _ Ev1.out).mono ?_; rintro r w1 ⟨rfl, hb1⟩
  have Y1 := zq (Chg.of_ex hb1)
  have s1 := Y1.out.size
  have Ew1 := zq (Ev1.out.chg Y1.out (by omega))
  clear hb1
  replace KX := zq (KX.out.chg Y1.out (by omega))
  replace KR := zq (KR.out.chg Y1.out (by omega))
  obtain ⟨qX0, qX1, qX2, qX3, qX4, qX5, qX6, qX7, qX8⟩ := KX.out.c9
  have jX := KX.out.lt
  obtain ⟨qR0, qR1, qR2, qR3, qR4, qR5, qR6, qR7, qR8⟩ := KR.out.c9
  have jR := KR.out.lt
  have zR := KR.out.frozen
  go_wp2_with fail
  refine (C2.out _).mono ?_; rintro r wq2 ⟨rfl, rfl⟩
  go_wp2_with fail
  refine (C3.out _).mono ?_; rintro r wq3 ⟨rfl, rfl⟩
  go_wp2_with fail
  refine name_calls ?_; intro v4 hv4
  have X4 : Hid (Chg (0) (0) w1 v4) := zx hv4
  have t4 := X4.out.size
  have Ev4 := zq (Ew1.out.chg X4.out (by omega))
  clear qX0 qX1 qX2 qX3 qX4 qX5 qX6 qX7 qX8 jX
  clear qR0 qR1 qR2 qR3 qR4 qR5 qR6 qR7 qR8 jR zR
  replace KX := zq (KX.out.chg X4.out (by omega))
  replace KR := zq (KR.out.chg X4.out (by omega))
  clear hv4
  refine (C4.out _ Ev4.out).mono ?_; rintro r w4 ⟨rfl, hb4⟩
  have Y4 := zq (Chg.of_ex hb4)
  have s4 := Y4.out.size
  have Ew4 := zq (Ev4.out.chg Y4.out (by omega))
  clear hb4
  replace KX := zq (KX.out.chg Y4.out (by omega))
  replace KR := zq (KR.out.chg Y4.out (by omega))
  obtain ⟨qX0, qX1, qX2, qX3, qX4, qX5, qX6, qX7, qX8⟩ := KX.out.c9
  have jX := KX.out.lt
  obtain ⟨qR0, qR1, qR2, qR3, qR4, qR5, qR6, qR7, qR8⟩ := KR.out.c9
  have jR := KR.out.lt
  have zR := KR.out.frozen
  go_wp2_with fail
  refine name_calls ?_; intro v5 hv5
  have X5 : Hid (Chg (0) (0) w4 v5) := zx hv5
  have t5 := X5.out.size
  have Ev5 := zq (Ew4.out.chg X5.out (by omega))
  clear qX0 qX1 qX2 qX3 qX4 qX5 qX6 qX7 qX8 jX
  clear qR0 qR1 qR2 qR3 qR4 qR5 qR6 qR7 qR8 jR zR
  replace KX := zq (KX.out.chg X5.out (by omega))
  replace KR := zq (KR.out.chg X5.out (by omega))
  clear hv5
  refine (C5.out _ Ev5.out).mono ?_; rintro r w5 ⟨a5, rfl, ⟨hfa, hfb, hfc, hfd⟩, hb5⟩
  have Y5 := zq (Chg.of_ex hb5)
  have s5 := Y5.out.size
  have Ew5 := zq (Ev5.out.chg Y5.out (by omega))
  clear hb5
  replace KX := zq (KX.out.chg Y5.out (by omega))
  replace KR := zq (KR.out.chg Y5.out (by omega))
  have HFA := zq hfa; clear hfa
  have WHFA := zq HFA.out.row
  have HFB := zq hfb; clear hfb
  have WHFB := zq HFB.out.row
  have HFC := zq hfc; clear hfc
  have WHFC := zq HFC.out.row
  have HFD := zq hfd; clear hfd
  have WHFD := zq HFD.out.row
  obtain ⟨qX0, qX1, qX2, qX3, qX4, qX5, qX6, qX7, qX8⟩ := KX.out.c9
  have jX := KX.out.lt
  obtain ⟨qR0, qR1, qR2, qR3, qR4, qR5, qR6, qR7, qR8⟩ := KR.out.c9
  have jR := KR.out.lt
  have zR := KR.out.frozen
  go_wp2_with fail
  refine name_calls ?_; intro v6 hv6
  have X6 : Hid (Chg (0) (0) w5 v6) := zx hv6
  have t6 := X6.out.size
  have Ev6 := zq (Ew5.out.chg X6.out (by omega))
  clear qX0 qX1 qX2 qX3 qX4 qX5 qX6 qX7 qX8 jX
  clear qR0 qR1 qR2 qR3 qR4 qR5 qR6 qR7 qR8 jR zR
  replace KX := zq (KX.out.chg X6.out (by omega))
  replace KR := zq (KR.out.chg X6.out (by omega))
  replace HFA := zq (HFA.out.chg X6.out WHFA.out (by omega))
  replace HFB := zq (HFB.out.chg X6.out WHFB.out (by omega))
  replace HFC := zq (HFC.out.chg X6.out WHFC.out (by omega))
  replace HFD := zq (HFD.out.chg X6.out WHFD.out (by omega))
  have KO : Hid (Blk v6 (w5.heap.size) 34 [.slice a5.b m.table.buckets.length a5.bc, .slice a5.f m.table.frames.length a5.fc, .slice a5.l m.cache.lines.length a5.lc, .int .i64 m.cache.hand, .int .i64 m.tags.count, .int .i64 m.tags.next, .int .i64 m.tags.round, .slice a5.o m.tags.owns.length a5.oc, .int .i64 m.space]) := zk hv6
  have lO : w5.heap.size < v6.heap.size := KO.out.lt
  clear hv6
  refine (C6.out _ Ev6.out).mono ?_; rintro r w6 ⟨rfl, hb6⟩
  have Y6 := zq (Chg.of_ex hb6)
  have s6 := Y6.out.size
  have Ew6 := zq (Ev6.out.chg Y6.out (by omega))
  clear hb6
  replace KX := zq (KX.out.chg Y6.out (by omega))
  replace KR := zq (KR.out.chg Y6.out (by omega))
  replace KO := zq (KO.out.chg Y6.out (by omega))
  replace HFA := zq (HFA.out.chg Y6.out WHFA.out (by omega))
  replace HFB := zq (HFB.out.chg Y6.out WHFB.out (by omega))
  replace HFC := zq (HFC.out.chg Y6.out WHFC.out (by omega))
  replace HFD := zq (HFD.out.chg Y6.out WHFD.out (by omega))
  obtain ⟨qX0, qX1, qX2, qX3, qX4, qX5, qX6, qX7, qX8⟩ := KX.out.c9
  have jX := KX.out.lt
  obtain ⟨qR0, qR1, qR2, qR3, qR4, qR5, qR6, qR7, qR8⟩ := KR.out.c9
  have jR := KR.out.lt
  have zR := KR.out.frozen
  obtain ⟨qO0, qO1, qO2, qO3, qO4, qO5, qO6, qO7, qO8⟩ := KO.out.c9
  have jO := KO.out.lt
  have zO := KO.out.frozen
  have hne1 : ¬ w5.heap.size = w.heap.size + 1 := by omega
  have hne2 : ¬ w.heap.size + 1 = w5.heap.size := by omega
  have FK : Hid (∀ w', Ex w6 w' → (w'.cell? ⟨w.heap.size, 0, none⟩ = some (.slice A m.table.buckets.length c) ∧ w'.cell? ⟨w.heap.size, 1, none⟩ = some (.slice (some ⟨b2, o2, none⟩) m.table.frames.length d) ∧ w'.cell? ⟨w.heap.size, 8, none⟩ = some (.int .i64 m.space))) := zq (fun w' h => ⟨(KX.out.ex h).c9.1, (KX.out.ex h).c9.2.1, (KX.out.ex h).c9.2.2.2.2.2.2.2.2⟩)
  go_wp2_with fail
  go_region_held3 (fun w' => (w'.cell? ⟨w.heap.size, 0, none⟩ = some (.slice A m.table.buckets.length c) ∧ w'.cell? ⟨w.heap.size, 1, none⟩ = some (.slice (some ⟨b2, o2, none⟩) m.table.frames.length d) ∧ w'.cell? ⟨w.heap.size, 8, none⟩ = some (.int .i64 m.space))) (first | (refine FK.out _ ?_; with_reducible (first | exact Ex.refl _ | exact (Ex.refl _).drew | exact hE1 | exact hE2)) | go_keep) (first
   | (go_at_call 80; (with_reducible refine (C7.out _).mono ?_); rintro r w7 ⟨rfl, hb7⟩; have hE1 := Ex.trans (Ex.refl _).drew hb7)
   | (go_at_call 79; (with_reducible refine (C8.out _ ?_).mono ?_); (exact Ew6.out.trans hE1); rintro r w8 ⟨⟨sp, rfl⟩, hb8⟩; have hE2 := Ex.trans hE1 hb8))
  rename_i hHeld
  have Y8 := zq (Chg.of_ex hE2)
  clear hHeld hE1 hE2 hb7 hb8 FK
  have s8 := Y8.out.size
  have Ew8 := zq (Ew6.out.chg Y8.out (by omega))
  clear qX0 qX1 qX2 qX3 qX4 qX5 qX6 qX7 qX8 jX
  clear qR0 qR1 qR2 qR3 qR4 qR5 qR6 qR7 qR8 jR zR
  clear qO0 qO1 qO2 qO3 qO4 qO5 qO6 qO7 qO8 jO zO
  replace KX := zq (KX.out.chg Y8.out (by omega))
  replace KR := zq (KR.out.chg Y8.out (by omega))
  replace KO := zq (KO.out.chg Y8.out (by omega))
  replace HFA := zq (HFA.out.chg Y8.out WHFA.out (by omega))
  replace HFB := zq (HFB.out.chg Y8.out WHFB.out (by omega))
  replace HFC := zq (HFC.out.chg Y8.out WHFC.out (by omega))
  replace HFD := zq (HFD.out.chg Y8.out WHFD.out (by omega))
  obtain ⟨qX0, qX1, qX2, qX3, qX4, qX5, qX6, qX7, qX8⟩ := KX.out.c9
  have jX := KX.out.lt
  obtain ⟨qR0, qR1, qR2, qR3, qR4, qR5, qR6, qR7, qR8⟩ := KR.out.c9
  have jR := KR.out.lt
  have zR := KR.out.frozen
  obtain ⟨qO0, qO1, qO2, qO3, qO4, qO5, qO6, qO7, qO8⟩ := KO.out.c9
  have jO := KO.out.lt
  have zO := KO.out.frozen
  go_wp2_with fail
  refine name_calls ?_; intro v10 hv10
  have X10 : Hid (Chg (0) (0) w8 v10) := zx hv10
  have t10 := X10.out.size
  have Ev10 := zq (Ew8.out.chg X10.out (by omega))
  clear qX0 qX1 qX2 qX3 qX4 qX5 qX6 qX7 qX8 jX
  clear qR0 qR1 qR2 qR3 qR4 qR5 qR6 qR7 qR8 jR zR
  clear qO0 qO1 qO2 qO3 qO4 qO5 qO6 qO7 qO8 jO zO
  replace KX := zq (KX.out.chg X10.out (by omega))
  replace KR := zq (KR.out.chg X10.out (by omega))
  replace KO := zq (KO.out.chg X10.out (by omega))
  replace HFA := zq (HFA.out.chg X10.out WHFA.out (by omega))
  replace HFB := zq (HFB.out.chg X10.out WHFB.out (by omega))
  replace HFC := zq (HFC.out.chg X10.out WHFC.out (by omega))
  replace HFD := zq (HFD.out.chg X10.out WHFD.out (by omega))
  clear hv10
  refine (C10.out _ Ev10.out).mono ?_; rintro r w10 ⟨a10, rfl, ⟨hfe, hff, hfg, hfh⟩, hb10⟩
  have Y10 := zq (Chg.of_ex hb10)
  have s10 := Y10.out.size
  have Ew10 := zq (Ev10.out.chg Y10.out (by omega))
  clear hb10
  replace KX := zq (KX.out.chg Y10.out (by omega))
  replace KR := zq (KR.out.chg Y10.out (by omega))
  replace KO := zq (KO.out.chg Y10.out (by omega))
  replace HFA := zq (HFA.out.chg Y10.out WHFA.out (by omega))
  replace HFB := zq (HFB.out.chg Y10.out WHFB.out (by omega))
  replace HFC := zq (HFC.out.chg Y10.out WHFC.out (by omega))
  replace HFD := zq (HFD.out.chg Y10.out WHFD.out (by omega))
  have HFE := zq hfe; clear hfe
  have WHFE := zq HFE.out.row
  have HFF := zq hff; clear hff
  have WHFF := zq HFF.out.row
  have HFG := zq hfg; clear hfg
  have WHFG := zq HFG.out.row
  have HFH := zq hfh; clear hfh
  have WHFH := zq HFH.out.row
  obtain ⟨qX0, qX1, qX2, qX3, qX4, qX5, qX6, qX7, qX8⟩ := KX.out.c9
  have jX := KX.out.lt
  obtain ⟨qR0, qR1, qR2, qR3, qR4, qR5, qR6, qR7, qR8⟩ := KR.out.c9
  have jR := KR.out.lt
  have zR := KR.out.frozen
  obtain ⟨qO0, qO1, qO2, qO3, qO4, qO5, qO6, qO7, qO8⟩ := KO.out.c9
  have jO := KO.out.lt
  have zO := KO.out.frozen
  have pk := PK.out _ Ew10.out
  have hb2' : b2 < w10.heap.size := by omega
  have hb2n : ¬ w5.heap.size = b2 := by omega
  have hb2m : ¬ b2 = w5.heap.size := by omega
  go_wp2_with fail
  refine name_calls ?_; intro v11 hv11
  have X11 : Hid (Chg (w5.heap.size) (w5.heap.size + 1) w10 v11) := zx hv11
  have t11 := X11.out.size
  have Ev11 := zq (Ew10.out.chg X11.out (by omega))
  clear qX0 qX1 qX2 qX3 qX4 qX5 qX6 qX7 qX8 jX
  clear qR0 qR1 qR2 qR3 qR4 qR5 qR6 qR7 qR8 jR zR
  clear qO0 qO1 qO2 qO3 qO4 qO5 qO6 qO7 qO8 jO zO
  replace KO : Hid (Blk v11 (w5.heap.size) 34 [.slice a10.b m.table.buckets.length a10.bc, .slice a10.f m.table.frames.length a10.fc, .slice a10.l fc.lines.length a10.lc, .int .i64 fc.hand, .int .i64 m.tags.count, .int .i64 m.tags.next, .int .i64 m.tags.round, .slice a10.o m.tags.owns.length a10.oc, .int .i64 m.space]) := zq (by rw [hv11]; exact Blk.put9 KO.out)
  replace KX := zq (KX.out.chg X11.out (by omega))
  replace KR := zq (KR.out.chg X11.out (by omega))
  replace HFA := zq (HFA.out.chg X11.out WHFA.out (by omega))
  replace HFB := zq (HFB.out.chg X11.out WHFB.out (by omega))
  replace HFC := zq (HFC.out.chg X11.out WHFC.out (by omega))
  replace HFD := zq (HFD.out.chg X11.out WHFD.out (by omega))
  replace HFE := zq (HFE.out.chg X11.out WHFE.out (by omega))
  replace HFF := zq (HFF.out.chg X11.out WHFF.out (by omega))
  replace HFG := zq (HFG.out.chg X11.out WHFG.out (by omega))
  replace HFH := zq (HFH.out.chg X11.out WHFH.out (by omega))
  clear hv11
  refine (C9.out _ _).mono ?_; rintro r w11 ⟨⟨al, rfl⟩, hb11⟩
  have Y11 := zq (Chg.of_ex hb11)
  have s11 := Y11.out.size
  have Ew11 := zq (Ev11.out.chg Y11.out (by omega))
  clear hb11
  replace KX := zq (KX.out.chg Y11.out (by omega))
  replace KR := zq (KR.out.chg Y11.out (by omega))
  replace KO := zq (KO.out.chg Y11.out (by omega))
  replace HFA := zq (HFA.out.chg Y11.out WHFA.out (by omega))
  replace HFB := zq (HFB.out.chg Y11.out WHFB.out (by omega))
  replace HFC := zq (HFC.out.chg Y11.out WHFC.out (by omega))
  replace HFD := zq (HFD.out.chg Y11.out WHFD.out (by omega))
  replace HFE := zq (HFE.out.chg Y11.out WHFE.out (by omega))
  replace HFF := zq (HFF.out.chg Y11.out WHFF.out (by omega))
  replace HFG := zq (HFG.out.chg Y11.out WHFG.out (by omega))
  replace HFH := zq (HFH.out.chg Y11.out WHFH.out (by omega))
  obtain ⟨qX0, qX1, qX2, qX3, qX4, qX5, qX6, qX7, qX8⟩ := KX.out.c9
  have jX := KX.out.lt
  obtain ⟨qR0, qR1, qR2, qR3, qR4, qR5, qR6, qR7, qR8⟩ := KR.out.c9
  have jR := KR.out.lt
  have zR := KR.out.frozen
  obtain ⟨qO0, qO1, qO2, qO3, qO4, qO5, qO6, qO7, qO8⟩ := KO.out.c9
  have jO := KO.out.lt
  have zO := KO.out.frozen
  cases al
  ·go_wp2
   exact bodyPost_ret (v := .tuple #[.agg #[.slice a10.b (⟨m.table, fc, m.tags, m.space⟩ : MachD).table.buckets.length a10.bc, .slice a10.f (⟨m.table, fc, m.tags, m.space⟩ : MachD).table.frames.length a10.fc, .slice a10.l (⟨m.table, fc, m.tags, m.space⟩ : MachD).cache.lines.length a10.lc, .int .i64 (⟨m.table, fc, m.tags, m.space⟩ : MachD).cache.hand, .int .i64 (⟨m.table, fc, m.tags, m.space⟩ : MachD).tags.count, .int .i64 (⟨m.table, fc, m.tags, m.space⟩ : MachD).tags.next, .int .i64 (⟨m.table, fc, m.tags, m.space⟩ : MachD).tags.round, .slice a10.o (⟨m.table, fc, m.tags, m.space⟩ : MachD).tags.owns.length a10.oc, .int .i64 (⟨m.table, fc, m.tags, m.space⟩ : MachD).space], .int .i64 i, .int .i64 4, .bool true]) (by simp [results, Tryz.results92, go_sem, *]) rfl
    ⟨a10, 4, rfl, ⟨(Fr.mono (zp HFE.out WHFE.out) (by omega)), (Fr.mono (zp HFF.out WHFF.out) (by omega)), (Fr.mono (zp HFG.out WHFG.out) (by omega)), (Fr.mono (zp HFH.out WHFH.out) (by omega))⟩, by omega, HM3.out, (ze Ew11.out)⟩
  ·go_wp2
   exact bodyPost_ret (v := .tuple #[.agg #[.slice a10.b (⟨m.table, fc, m.tags, m.space⟩ : MachD).table.buckets.length a10.bc, .slice a10.f (⟨m.table, fc, m.tags, m.space⟩ : MachD).table.frames.length a10.fc, .slice a10.l (⟨m.table, fc, m.tags, m.space⟩ : MachD).cache.lines.length a10.lc, .int .i64 (⟨m.table, fc, m.tags, m.space⟩ : MachD).cache.hand, .int .i64 (⟨m.table, fc, m.tags, m.space⟩ : MachD).tags.count, .int .i64 (⟨m.table, fc, m.tags, m.space⟩ : MachD).tags.next, .int .i64 (⟨m.table, fc, m.tags, m.space⟩ : MachD).tags.round, .slice a10.o (⟨m.table, fc, m.tags, m.space⟩ : MachD).tags.owns.length a10.oc, .int .i64 (⟨m.table, fc, m.tags, m.space⟩ : MachD).space], .int .i64 i, .int .i64 2, .bool true]) (by simp [results, Tryz.results92, go_sem, *]) rfl
    ⟨a10, 2, rfl, ⟨(Fr.mono (zp HFE.out WHFE.out) (by omega)), (Fr.mono (zp HFF.out WHFF.out) (by omega)), (Fr.mono (zp HFG.out WHFG.out) (by omega)), (Fr.mono (zp HFH.out WHFH.out) (by omega))⟩, by omega, HM1.out, (ze Ew11.out)⟩
end Go.Proofs.YtbdlpbladpppjaaGreatDoor
namespace Go.Proofs.YtbdlpbladpppjaaGreatDoor
open Go.ChangeShapes Go.WideShapes Go.ChangeAt Go.RowKit
set_option linter.unusedVariables false

/-- Marks that are no more than those. -/
def LessMarks (ks ms : List Bool) : Prop := ks.length = ms.length ∧ ∀ i : Nat, ks[i]? = some true → ms[i]? = some true
theorem LessMarks.refl (ms : List Bool) : LessMarks ms ms := ⟨rfl, fun _ h => h⟩
theorem LessMarks.off {ks ms : List Bool} (h : LessMarks ks ms) (k : Nat) : LessMarks (ks.set k false) ms := by
 refine ⟨by simpa using h.1, fun i hi => ?_⟩
 rcases get_set_cases hi with ⟨_, e, _⟩ | ⟨_, hi'⟩
 ·cases e
 ·exact h.2 i hi'
theorem MemOk.less {m : MemD} (h : MemOk m) {ks : List Bool} (hk : LessMarks ks m.marks) {hd : Int} (h0 : 0 ≤ hd ∧ hd < ks.length) : MemOk ⟨m.mach, ks, hd⟩ :=
 ⟨h.1, by rw [hk.1]; exact h.2.1, h0, fun i f h1 h2 => h.2.2.2 i f (hk.2 i h1) h2⟩
theorem MemOk.new {m : MachD} (h : MachOk m) : MemOk ⟨m, List.replicate m.table.frames.length false, 0⟩ := by
 have := h.few
 refine ⟨h, by simp, ⟨by simp, by simp; omega⟩, fun i f h1 h2 => ?_⟩
 simp only [List.getElem?_replicate] at h1
 split at h1
 ·injection h1 with h1; cases h1
 ·cases h1
/-- A page is put into a free frame. -/
theorem MemOk.put {m : MemD} (h : MemOk m) {k : KeyD} {i : Nat} {rt : Int} (hk : keyOk k) (hs : keyFor k.space k.page = k) (hr : 0 ≤ rt ∧ rt < 8) {f : FrameD} (hf : m.mach.table.frames[i]? = some f) (hu : f.used = false) (hn : findF m.mach.table k < 0) :
  (putM m.mach k i rt).2 = true ∧ MemOk ⟨(putM m.mach k i rt).1, m.marks, m.hand⟩ ∧ findF (putM m.mach k i rt).1.table k = (i : Int) ∧ (putM m.mach k i rt).1.space = m.mach.space ∧ (putM m.mach k i rt).1.table.frames.length = m.mach.table.frames.length := by
 have e : putM m.mach k i rt = (⟨linkT m.mach.table k i rt, m.mach.cache, m.mach.tags, m.mach.space⟩, true) := by
  unfold putM putsT
  rw [getD_of hf, hu, decide_eq_true hn]
  rfl
 obtain ⟨h1, h2⟩ := putM_ok h.1 hk hs hr (getElem?_lt hf) (by rw [e])
 have h3 : (putM m.mach k i rt).1.table.frames.length = m.mach.table.frames.length := by rw [e]; unfold linkT; simp
 refine ⟨by rw [e], ⟨h1, by rw [h3]; exact h.2.1, h.2.2.1, fun j g hj hg => ?_⟩, h2, by rw [e], h3⟩
 rw [e] at hg
 have hjl := getElem?_lt hj
 have hg0 := List.getElem?_eq_getElem (l := m.mach.table.frames) (i := j) (by have := h.2.1; simp only at hjl; omega)
 have hgu := h.2.2.2 j _ hj hg0
 have hg2 : (linkT m.mach.table k i rt).frames[j]? = some g := hg
 rw [linkT_keep hf hu hg0 hgu] at hg2
 injection hg2 with hg2
 rw [← hg2]; exact hgu
/-- A frame's page is taken out, and the frame loses its mark. -/
theorem MemOk.take {m : MemD} (h : MemOk m) {i : Nat} {f : FrameD} (hf : m.mach.table.frames[i]? = some f) (hu : f.used = true) :
  keyOk f.key ∧ keyFor f.key.space f.key.page = f.key ∧ (takeM m.mach f.key).2 = true ∧ MemOk ⟨(takeM m.mach f.key).1, m.marks.set i false, m.hand⟩ ∧ (takeM m.mach f.key).1.table.frames[i]? = some freeF ∧ (takeM m.mach f.key).1.space = m.mach.space ∧ (∀ k : KeyD, findF m.mach.table k < 0 → findF (takeM m.mach f.key).1.table k < 0) := by
 have hT := h.1.1.1
 have hfo := (hT.2.1 i f (getElem?_lt hf) hf).1.2 hu
 have hff := h.1.2.1 i f hf
 have hks : keyFor f.key.space f.key.page = f.key := by
  unfold keyFor
  split
  ·rename_i hp
   have : f.key.space = 0 := Decidable.byContradiction fun q => hff ⟨hu, hp, q⟩
   rw [← this]
  ·rfl
 have hfd := findF_hit hT hf hu rfl
 have hok : (takeM m.mach f.key).2 = true := by unfold takeM; rw [if_neg (by omega)]
 obtain ⟨i', f', e1, hf', hu', hk', e2, e3, e4, hmo⟩ := takeM_ok h.1 hfo.1 hks hok
 have hii : i' = i := by omega
 subst hii
 have hfree : (takeM m.mach f.key).1.table.frames[i']? = some freeF := by rw [e2]; exact (unlinkT_facts hT hf hu).2.2.1
 have hlen : (takeM m.mach f.key).1.table.frames.length = m.mach.table.frames.length := by rw [e2]; exact (unlinkT_facts hT hf hu).2.1
 refine ⟨hfo.1, hks, hok, ⟨hmo, by simp only [List.length_set]; rw [hlen]; exact h.2.1, ⟨h.2.2.1.1, by simp only [List.length_set]; exact h.2.2.1.2⟩, fun j g hj hg => ?_⟩, hfree, e4, fun k hn => ?_⟩
 ·rcases get_set_cases hj with ⟨_, e, _⟩ | ⟨hne, hj'⟩
  ·cases e
  ·have hjl := getElem?_lt hj'
   have hg0 := List.getElem?_eq_getElem (l := m.mach.table.frames) (i := j) (by have := h.2.1; omega)
   have hgu := h.2.2.2 j _ hj' hg0
   obtain ⟨g', a1, a2, _⟩ := unlinkT_keep hT hf hu hg0 hne
   simp only at hg
   rw [e2, a1] at hg
   injection hg with hg
   rw [← hg, a2]; exact hgu
 ·rw [findF_none (fun j g hg hgu => ?_)]
  ·omega
  rw [e2] at hg
  obtain ⟨_, g0, b1, b2, b3, _⟩ := unlinkT_back hT hf hu hg hgu
  rw [b3]
  exact findF_neg hn b1 b2
/-- A page is touched, and its frame gets a mark. -/
theorem MemOk.touch {m : MemD} (h : MemOk m) {page : Int} (hp : 0 ≤ page ∧ page < 256) (hn : ¬ findF m.mach.table (keyFor m.mach.space page) < 0) :
  ∃ (i : Nat) (f : FrameD), touchF m.mach page = (i : Int) ∧ i < m.marks.length ∧ m.mach.table.frames[i]? = some f ∧ MemOk ⟨touchM m.mach page, m.marks.set i true, m.hand⟩ := by
 obtain ⟨i, f, e1, hf, hu⟩ := touchF_ok h.1 (missM_no hn)
 obtain ⟨h1, h2, h3, h4⟩ := touchM_ok h.1 hp
 refine ⟨i, f, e1, by rw [h.2.1]; exact getElem?_lt hf, hf, h1, by simp only [List.length_set]; rw [h2]; exact h.2.1, ⟨h.2.2.1.1, by simp only [List.length_set]; exact h.2.2.1.2⟩, fun j g hj hg => ?_⟩
 simp only at hg
 rw [h2] at hg
 rcases get_set_cases hj with ⟨rfl, _, _⟩ | ⟨_, hj'⟩
 ·rw [hf] at hg
  injection hg with hg
  rw [← hg]; exact hu
 ·exact h.2.2.2 j g hj' hg
theorem keyFor_again (s p : Int) : keyFor (keyFor s p).space (keyFor s p).page = keyFor s p := by
 unfold keyFor
 by_cases h : 128 ≤ p
 ·simp [h]
 ·simp [h]
theorem keyFor_keyOk {m : MachD} (h : MachOk m) {p : Int} (hp : 0 ≤ p ∧ p < 256) : keyOk (keyFor m.space p) := keyFor_ok h.space hp
end Go.Proofs.YtbdlpbladpppjaaGreatDoor
namespace Go.Proofs.YtbdlpbladpppjaaGreatDoor
open Go.ChangeShapes Go.WideShapes Go.ChangeAt Go.RowKit
open Rec (sz cs)
set_option linter.unusedVariables false
set_option maxRecDepth 100000

/-- A byte of the drawn code. -/
structure ByteD where
 n : Int
deriving DecidableEq, Inhabited

instance : Rec ByteD where
 sz := 1
 cs b := [.int .u8 b.n]
 len _ := rfl
 pos := by decide
 one _ u hu := by simp at hu; subst hu; rfl

theorem Rd.byte {w : World} {A : Option Addr} {k : Nat} {xs : List ByteD} (h : Rd w A xs) (hk : k < xs.length) : ∃ b off x, A = some ⟨b, off, none⟩ ∧ b < w.heap.size ∧ xs[k]? = some x ∧
  w.cell? ⟨b, off + k, none⟩ = some (.int .u8 x.n) := by
 obtain ⟨b, off, x, e, hb, hx, hc⟩ := h.at_ hk
 exact ⟨b, off, x, e, hb, hx, by have := hc 0 _ (by decide) rfl; simpa [sz] using this⟩

def Bytes (bs : List ByteD) : Prop := ∀ b ∈ bs, 0 ≤ b.n ∧ b.n ≤ 255

/-- Block g is a reader that has picked p times. -/
def Rdr (w : World) (g p : Nat) : Prop := ∃ A c bs, Blk w g 69 [.slice A bs.length c, .int .i64 (p : Int)] ∧ Rd w A bs ∧ bs.length ≤ 2000 ∧ bs.length ≤ c ∧ Bytes bs ∧ (0 < bs.length → ∀ b o, A = some ⟨b, o, none⟩ → b < g)

theorem Rdr.ex {w w' : World} {g p : Nat} (h : Rdr w g p) (k : Ex w w') : Rdr w' g p := by
 obtain ⟨A, c, bs, h1, h2, h3⟩ := h
 exact ⟨A, c, bs, h1.ex k, h2.ex k, h3⟩
theorem Rdr.alloc {w : World} {g p : Nat} (h : Rdr w g p) (o : Obj) : Rdr (w.alloc o) g p := h.ex ((Ex.refl w).alloc o)
theorem Rdr.drew {w : World} {g p : Nat} (h : Rdr w g p) : Rdr w.drew g p := h.ex ((Ex.refl w).drew)
theorem Rdr.lt {w : World} {g p : Nat} (h : Rdr w g p) : g < w.heap.size := by
 obtain ⟨A, c, bs, h1, _⟩ := h
 exact h1.lt

theorem Rd.lits (w : World) (T : TypeId) (zs : List Int) : Rd (w.alloc (.cells (zs.map (Value.int .i64)).toArray T)) (some ⟨w.heap.size, 0, none⟩) zs := by
 have e : flat zs = zs.map (Value.int .i64) := by
  induction zs with
  | nil => rfl
  | cons z zs ih => simp [ih, cs]
 have := Bk.rd (Bk.new w T zs)
 rwa [e] at this

set_option maxHeartbeats 400000 in
theorem l12Open_c (A : Option Addr) (c : Nat) (bs : List ByteD) (w : World) (hx : Rd w A bs) (hb : Bytes bs) (hn : bs.length ≤ 1048576) (hc : bs.length ≤ c) (hcm : c ≤ maxLen) :
  Calls Tryz.prog 17 #[.slice A bs.length c] w fun r w' => ∃ g, r = .returned (.pointer (some ⟨g, 0, none⟩)) ∧ Rdr w' g 0 ∧ w.heap.size ≤ g ∧ Ex w w' := by
 have H1 := zq hx
 have hlt : 0 < bs.length → ∀ b o, A = some ⟨b, o, none⟩ → b < w.heap.size := fun h0 b o e => by
  obtain ⟨b', o', e', hb', _⟩ := hx h0
  rw [e] at e'
  injection e' with e'
  injection e' with e1
  omega
 have H2 := zq hlt
 unfold maxLen at hcm
 clear hx hlt
 by_cases h2 : 2000 < bs.length
 ·have hl : (bs.take 2000).length = 2000 := by rw [List.length_take]; omega
  have h3 : (2000 : Int) < (bs.length : Int) := by omega
  have HL := zq hl
  clear hl
  go_enter Tryz.func17, Tryz.ntmps17
  go_wp2
  go_ret
  refine ⟨_, rfl, ⟨A, c, bs.take 2000, ?_, (H1.out.take 2000).alloc _, by rw [HL.out]; exact Nat.le_refl _, by rw [HL.out]; omega, fun b hb' => hb b (List.mem_of_mem_take hb'), fun _ => H2.out (by omega)⟩, Nat.le_refl _, (Ex.refl _).alloc _⟩
  rw [HL.out]
  exact Blk.new_at _ _ _ rfl
 ·have h3 : ¬ (2000 : Int) < (bs.length : Int) := by omega
  go_enter Tryz.func17, Tryz.ntmps17
  go_wp2
  go_ret
  exact ⟨_, rfl, ⟨A, c, bs, Blk.new_at _ _ _ rfl, H1.out.alloc _, by omega, hc, hb, H2.out⟩, Nat.le_refl _, (Ex.refl _).alloc _⟩

theorem ofInt_i64 (a : Nat) (ha : a < 9223372036854775808) : (BitVec.ofInt 64 (a : Int)).toNat = a := by
 rw [BitVec.ofInt_natCast, BitVec.toNat_ofNat]; exact Nat.mod_eq_of_lt (by omega)
theorem i64_xor_nat (a b : Nat) (ha : a < 9223372036854775808) (hb : b < 9223372036854775808) : bits .xor .i64 (a : Int) (b : Int) = ((a ^^^ b : Nat) : Int) := by
 have hx : a ^^^ b < 2 ^ 63 := Nat.xor_lt_two_pow (by omega) (by omega)
 show IntKind.i64.wrap ((BitVec.ofInt 64 (a : Int) ^^^ BitVec.ofInt 64 (b : Int)).toNat : Int) = _
 rw [BitVec.toNat_xor, ofInt_i64 a ha, ofInt_i64 b hb, IntKind.wrap_i64]
 omega

def InB (v n : Int) : Prop := 0 ≤ v ∧ (1 ≤ n → v < n) ∧ (n < 1 → v = 0)

/-- What a pick leaves. -/
def Picked (g p : Nat) (n : Int) (w : World) (e : Ending) (w' : World) : Prop := ∃ v : Int, e = .returned (.int .i64 v) ∧ InB v n ∧ Rdr w' g (p + 1) ∧ w.grownBy w' (some g)

theorem rdr_step {w : World} {g p : Nat} {A : Option Addr} {c : Nat} {bs : List ByteD} (h1 : Blk w g 69 [.slice A bs.length c, .int .i64 (p : Int)]) (h2 : Rd w A bs) (h3 : bs.length ≤ 2000) (h4 : bs.length ≤ c) (h5 : Bytes bs) (h6 : 0 < bs.length → ∀ b o, A = some ⟨b, o, none⟩ → b < g) :
  Rdr (w.setCell ⟨g, 1, none⟩ (.int .i64 ((p : Int) + 1))) g (p + 1) := by
 refine ⟨A, c, bs, ?_, ?_, h3, h4, h5, h6⟩
 ·have := h1.set 1 (.int .i64 ((p : Int) + 1))
  simpa using this
 ·intro h0
  obtain ⟨b, o, e, hb, hc⟩ := h2 h0
  have := h6 h0 b o e
  exact ⟨b, o, e, by simpa using hb, fun m u hu => (World.cell?_setCell_other w ⟨g, 1, none⟩ ⟨b, o + m, none⟩ _ (by intro e; injection e with e1; omega)).trans (hc m u hu)⟩

set_option maxHeartbeats 1000000 in
theorem pick_c (g p : Nat) (n : Int) (w : World) (h : Rdr w g p) (hp : p ≤ 1000000) (hn : n ≤ 1000000) :
  Calls Tryz.prog 35 #[.pointer (some ⟨g, 0, none⟩), .int .i64 n] w (Picked g p n w) := by
 obtain ⟨A, c, bs, h1, h2, h3, h4, h5, h6⟩ := h
 have hst := rdr_step h1 h2 h3 h4 h5 h6
 have HST := zq hst
 have HG : Hid (w.grownBy (w.setCell ⟨g, 1, none⟩ (.int .i64 ((p : Int) + 1))) (some g)) := zq (grown_set (grown_refl w _) _ _)
 obtain ⟨q0, q1⟩ := h1.c2
 have hfz := h1.frozen
 by_cases hn1 : n < 1
 ·have HF : Hid (InB 0 n) := zq ⟨Int.le_refl _, fun h => by omega, fun _ => rfl⟩
  go_enter Tryz.func35, Tryz.ntmps35
  go_wp2
  go_ret
  exact ⟨0, rfl, HF.out, HST.out, HG.out⟩
 by_cases hb0 : bs.length = 0
 ·have hbe : ((bs.length : Int) == 0) = true := by simp [hb0]
  have HF : Hid (InB 0 n) := zq ⟨Int.le_refl _, fun h => by omega, fun _ => by omega⟩
  obtain ⟨m, hm⟩ : ∃ m, m = bs.length := ⟨_, rfl⟩
  rw [← hm] at q0 hbe
  clear hm hb0 h1 h2
  go_enter Tryz.func35, Tryz.ntmps35
  go_wp2
  go_ret
  exact ⟨0, rfl, HF.out, HST.out, HG.out⟩
 obtain ⟨m, hm⟩ : ∃ m, m = bs.length := ⟨_, rfl⟩
 have HM := zq hm
 rw [← hm] at q0 h3 hb0
 have hmp : 0 < m := by omega
 have hne : ((m : Int) == 0) = false := by simp; omega
 have hn1' : ¬ n < 1 := hn1
 have key : ∀ k : Nat, k < m → ∃ b o x, A = some ⟨b, o, none⟩ ∧ 0 ≤ x ∧ x ≤ 255 ∧ (w.setCell ⟨g, 1, none⟩ (.int .i64 ((p : Int) + 1))).cell? ⟨b, o + k, none⟩ = some (.int .u8 x) := by
  intro k hk
  obtain ⟨b, o, x, e, hb, hx, hc⟩ := Rd.byte h2 (k := k) (by omega)
  have h7 := h6 (by omega) b o e
  have h8 := h5 x (List.mem_of_getElem? hx)
  exact ⟨b, o, x.n, e, h8.1, h8.2, (World.cell?_setCell_other w ⟨g, 1, none⟩ ⟨b, o + k, none⟩ _ (by intro e; injection e with e1; omega)).trans hc⟩
 have KEY := zq key
 clear key hst h1 h2 h5 h6 hm
 by_cases hlt : p < m
 ·obtain ⟨b, o, x, rfl, hx0, hx1, hcell⟩ := KEY.out p hlt
  have HF : Hid (InB (x % n) n) := zq ⟨Int.emod_nonneg _ (by omega), fun _ => Int.emod_lt_of_pos _ (by omega), fun h => by omega⟩
  go_enter Tryz.func35, Tryz.ntmps35
  go_wp2
  go_ret
  exact ⟨x % n, rfl, HF.out, HST.out, HG.out⟩
 ·have hge : ¬ (p : Int) < (m : Int) := by omega
  obtain ⟨b, o, x, rfl, hx0, hx1, hcell⟩ := KEY.out (p % m) (Nat.mod_lt _ hmp)
  obtain ⟨b', o', y, e', hy0, hy1, hcell'⟩ := KEY.out ((p * 7 + 3) % m) (Nat.mod_lt _ hmp)
  injection e' with e'
  injection e' with e1 e2
  subst e1 e2
  have d1 : (0 : Int) ≤ (p : Int) % (m : Int) := Int.emod_nonneg _ (by omega)
  have d2 : (p : Int) % (m : Int) < (m : Int) := Int.emod_lt_of_pos _ (by omega)
  have d3 : (0 : Int) ≤ ((p : Int) * 7 + 3) % (m : Int) := Int.emod_nonneg _ (by omega)
  have d4 : ((p : Int) * 7 + 3) % (m : Int) < (m : Int) := Int.emod_lt_of_pos _ (by omega)
  have d5 : ((p : Int) % (m : Int)).toNat = p % m := by omega
  have d6 : (((p : Int) * 7 + 3) % (m : Int)).toNat = (p * 7 + 3) % m := by
   have e : ((p : Int) * 7 + 3) % (m : Int) = (((p * 7 + 3) % m : Nat) : Int) := by simp
   rw [e, Int.toNat_natCast]
  have d7 : (0 : Int) ≤ (p : Int) / (m : Int) := Int.ediv_nonneg (by omega) (by omega)
  have d8 : (p : Int) / (m : Int) ≤ 1000000 := by
   have e : (p : Int) / (m : Int) = ((p / m : Nat) : Int) := by simp
   rw [e]; have := Nat.div_le_self p m; omega
  go_enter Tryz.func35, Tryz.ntmps35
  go_wp2_with fail
  go_quiet (fail)
  have x0 : 0 ≤ x * 131 + y * 1117 + (p : Int) * 29 + (p : Int) / (m : Int) * 53 := by omega
  have x1 : x * 131 + y * 1117 + (p : Int) * 29 + (p : Int) / (m : Int) * 53 ≤ 1000000000 := by omega
  generalize hq : x * 131 + y * 1117 + (p : Int) * 29 + (p : Int) / (m : Int) * 53 = q at x0 x1 ⊢
  obtain ⟨q, rfl⟩ := Int.eq_ofNat_of_zero_le x0
  clear hq d1 d2 d3 d4 d5 d6 d7 d8 hcell hcell'
  have hx : bits .xor .i64 (q : Int) ((q : Int) / 64) = ((q ^^^ (q / 64) : Nat) : Int) := by
   have := i64_xor_nat q (q / 64) (by omega) (by omega)
   simpa using this
  have hxb : q ^^^ (q / 64) < 2 ^ 30 := Nat.xor_lt_two_pow (by omega) (by omega)
  have hxb' : (0 : Int) ≤ ((q ^^^ (q / 64) : Nat) : Int) := by omega
  generalize hz : q ^^^ (q / 64) = z at hx hxb hxb'
  clear hz
  have HF : Hid (InB ((z : Int) % n) n) := zq ⟨Int.emod_nonneg _ (by omega), fun _ => Int.emod_lt_of_pos _ (by omega), fun h => by omega⟩
  go_wp2
  go_ret
  exact ⟨(z : Int) % n, rfl, HF.out, HST.out.ex ((Ex.refl _).drewN _), grown_ex HG.out ((Ex.refl _).drewN _)⟩

/-- What a choice among the numbers zs leaves. -/
def Chosen (g p : Nat) (zs : List Int) (w : World) (e : Ending) (w' : World) : Prop := ∃ v : Int, e = .returned (.int .i64 v) ∧ v ∈ zs ∧ Rdr w' g (p + 1) ∧ w.grownBy w' (some g)

set_option maxHeartbeats 1000000 in
theorem num_c (g p b o c : Nat) (zs : List Int) (w : World) (h : Rdr w g p) (hz : Rd w (some ⟨b, o, none⟩) zs) (h0 : 0 < zs.length) (h1 : zs.length ≤ 1000000) (hp : p ≤ 1000000) (hbg : b ≠ g) :
  Calls Tryz.prog 38 #[.pointer (some ⟨g, 0, none⟩), .slice (some ⟨b, o, none⟩) zs.length c] w (Chosen g p zs w) := by
 have H := zq h
 have HZ := zq hz
 obtain ⟨n, hn⟩ : ∃ n, n = zs.length := ⟨_, rfl⟩
 have HN := zq hn
 rw [← hn] at h0 h1 ⊢
 clear h hz hn
 go_enter Tryz.func38, Tryz.ntmps38
 go_wp2_with fail
 refine (pick_c g p n w H.out hp (by omega)).mono ?_
 rintro r w1 ⟨v, rfl, ⟨hv0, hv1, hv2⟩, hr, hg⟩
 have hv1' : v < n := hv1 (by omega)
 obtain ⟨k, rfl⟩ := Int.eq_ofNat_of_zero_le hv0
 have hk : k < n := by omega
 have hgr : Rd w1 (some ⟨b, o, none⟩) zs := HZ.out.grown hg (fun b' e off e' => by injection e with e; injection e' with e'; injection e' with e1; omega)
 obtain ⟨b', o', x, e, hb, hx, hc⟩ := Rd.int hgr (k := k) (by have := HN.out; omega)
 injection e with e
 injection e with e1 e2
 subst e1 e2
 have HX : Hid (x ∈ zs) := zq (List.mem_of_getElem? hx)
 have HR := zq hr
 have HG := zq hg
 clear hv1 hv2 hr hg hgr hx
 go_wp2
 go_ret
 exact ⟨x, rfl, HX.out, HR.out, HG.out⟩
end Go.Proofs.YtbdlpbladpppjaaGreatDoor
namespace Go.Proofs.YtbdlpbladpppjaaGreatDoor
open Go.ChangeShapes Go.WideShapes Go.ChangeAt Go.RowKit
open Rec (sz cs)

theorem Rdr.chg {w w' : World} {g p lo hi : Nat} (h : Rdr w g p) (k : Chg lo hi w w') (h1 : g < lo ∨ hi ≤ lo) : Rdr w' g p := by
 obtain ⟨A, c, bs, a1, a2, a3, a4, a5, a6⟩ := h
 refine ⟨A, c, bs, a1.chg k (by omega), ?_, a3, a4, a5, a6⟩
 intro h0
 obtain ⟨b, o, e, hb, hc⟩ := a2 h0
 have := a6 h0 b o e
 exact ⟨b, o, e, Nat.lt_of_lt_of_le hb k.size, fun m u hu => (World.cell?_of_block (w := w) (a := ⟨b, o + m, none⟩) (k.block b hb (by omega))).trans (hc m u hu)⟩
theorem Rd.lits_at (w : World) (T : TypeId) (zs : List Int) {g : Nat} (hg : g = w.heap.size) : Rd (w.alloc (.cells (zs.map (Value.int .i64)).toArray T)) (some ⟨g, 0, none⟩) zs := by
 subst hg; exact Rd.lits _ _ _
end Go.Proofs.YtbdlpbladpppjaaGreatDoor
namespace Go.Proofs.YtbdlpbladpppjaaGreatDoor
open Go.ChangeShapes Go.WideShapes Go.ChangeAt Go.RowKit
open Rec (sz cs)
set_option linter.unusedVariables false
set_option maxRecDepth 100000

theorem Fr.off {α : Type} [Rec α] {E T : TypeId} {w : World} {B c g : Nat} {A : Option Addr} {xs : List α} {cells : List Value} (h : Fr E w B A c xs) (k : Blk w g T cells) (hE : E ≠ T) : ∀ b, rowOf A c = some b → b ≠ g := by
 intro b hb e
 subst e
 obtain ⟨_, _, h0 | ⟨g', rest, rfl, _, hk, _⟩⟩ := h
 ·unfold rowOf at hb; rw [if_pos h0] at hb; cases hb
 ·unfold rowOf at hb
  split at hb
  ·cases hb
  ·injection hb with hb
   subst hb
   have h1 : w.heap[g']? = _ := hk
   have h2 : w.heap[g']? = _ := k
   rw [h1] at h2
   injection h2 with h2
   injection h2 with _ h3
   exact hE h3
def SomeKey (g p : Nat) (w : World) (e : Ending) (w' : World) : Prop := ∃ k : KeyD, e = .returned (.agg #[.int .i64 k.space, .int .i64 k.page]) ∧ keyOk k ∧ Rdr w' g (p + 2) ∧ w.grownBy w' (some g)

set_option maxHeartbeats 1000000 in
theorem l2Draw_c (g p : Nat) (w : World) (h : Rdr w g p) (hp : p ≤ 900000) : Calls Tryz.prog 98 #[.pointer (some ⟨g, 0, none⟩)] w (SomeKey g p w) := by
 have lg := h.lt
 have HR0 := zq h
 clear h
 go_enter Tryz.func98, Tryz.ntmps98
 go_wp2_with fail
 refine name_calls ?_; intro v1 hv1
 have X1 : Hid (Chg (0) (0) w v1) := zx hv1
 have t1 := X1.out.size
 have Ev1 : Hid (Chg g (g + 1) w v1) := zq ((Chg.refl g (g + 1) w).step X1.out (by omega))
 replace HR0 := zq (HR0.out.chg X1.out (by omega))
 have L1 : Hid (Rd v1 (some ⟨w.heap.size + 1, 0, none⟩) ([0, 1, 2, 3, 1] : List Int)) := zq (by rw [hv1]; repeat' (first | exact Rd.lits _ _ _ | exact Rd.lits_at _ _ _ (by simp) | with_reducible refine Rd.alloc ?_ _))
 have KR : Hid (Blk v1 (w.heap.size) 43 [.int .i64 0, .int .i64 0]) := zk hv1
 have lR : w.heap.size < v1.heap.size := KR.out.lt
 clear hv1
 refine (num_c g p _ 0 _ [0, 1, 2, 3, 1] _ HR0.out L1.out (by simp) (by simp) (by omega) (by omega)).mono ?_; rintro r w1 ⟨n1, rfl, hhn1, hrd1, hb1⟩
 have Y1 : Hid (Chg (g) (g + 1) v1 w1) := zq (Chg.of_grown hb1 (fun b hb => by injection hb with hb; omega))
 have s1 := Y1.out.size
 have Ew1 : Hid (Chg g (g + 1) w w1) := zq (Ev1.out.step Y1.out (by omega))
 clear hb1
 replace KR := zq (KR.out.chg Y1.out (by omega))
 clear HR0
 have HRD1 := zq hrd1; clear hrd1
 have HHN1 := zq hhn1; clear hhn1
 obtain ⟨qR0, qR1⟩ := KR.out.c2
 have jR := KR.out.lt
 have zR := KR.out.frozen
 go_wp2_with fail
 refine name_calls ?_; intro v2 hv2
 have X2 : Hid (Chg (0) (0) w1 v2) := zx hv2
 have t2 := X2.out.size
 have Ev2 : Hid (Chg g (g + 1) w v2) := zq (Ew1.out.step X2.out (by omega))
 clear qR0 qR1 jR zR
 replace KR := zq (KR.out.chg X2.out (by omega))
 replace HRD1 := zq (HRD1.out.chg X2.out (by omega))
 have L2 : Hid (Rd v2 (some ⟨w1.heap.size, 0, none⟩) ([0, 1, 2, 3, 4, 5, 100, 255] : List Int)) := zq (by rw [hv2]; repeat' (first | exact Rd.lits _ _ _ | exact Rd.lits_at _ _ _ (by simp) | with_reducible refine Rd.alloc ?_ _))
 clear hv2
 refine (num_c g (p + 1) _ 0 _ [0, 1, 2, 3, 4, 5, 100, 255] _ HRD1.out L2.out (by simp) (by simp) (by omega) (by omega)).mono ?_; rintro r w2 ⟨n2, rfl, hhn2, hrd2, hb2⟩
 have Y2 : Hid (Chg (g) (g + 1) v2 w2) := zq (Chg.of_grown hb2 (fun b hb => by injection hb with hb; omega))
 have s2 := Y2.out.size
 have Ew2 : Hid (Chg g (g + 1) w w2) := zq (Ev2.out.step Y2.out (by omega))
 clear hb2
 replace KR := zq (KR.out.chg Y2.out (by omega))
 clear HRD1
 have HRD2 := zq hrd2; clear hrd2
 have HHN2 := zq hhn2; clear hhn2
 obtain ⟨qR0, qR1⟩ := KR.out.c2
 have jR := KR.out.lt
 have zR := KR.out.frozen
 go_wp2
 exact bodyPost_ret (v := .agg #[.int .i64 n1, .int .i64 n2]) (by simp [results, Tryz.results98, go_sem, *]) rfl
  ⟨⟨n1, n2⟩, rfl, by have h1 := HHN1.out; have h2 := HHN2.out; simp at h1 h2; unfold keyOk; simp only; omega, Rdr.chg (lo := w.heap.size) (hi := w.heap.size + 1) HRD2.out (by with_reducible repeat' (first | exact Chg.refl _ _ w2 | refine Chg.alloc ?_ _ | refine Chg.drew ?_ | refine Chg.set ?_ (by omega) _)) (by omega), Chg.grown (zc Ew2.out)⟩

set_option maxHeartbeats 2000000 in
theorem wireS_c (t : CacheD) (p : Int) (b : Bool) (A : Option Addr) (c : Nat) (w : World) (hx : Rd w A t.lines) (hn : t.lines.length ≤ 1048576) (hc : t.lines.length ≤ c) (hc2 : c ≤ maxLen) :
  Calls Tryz.prog 107 #[.agg #[.slice A t.lines.length c, .int .i64 t.hand], .int .i64 p, .bool b] w
  fun r w' => ∃ A' c', r = .returned (.tuple #[.agg #[.slice A' (wireLine t p b).1.lines.length c', .int .i64 (wireLine t p b).1.hand], .bool (wireLine t p b).2]) ∧ Fr 64 w' w.heap.size A' c' (wireLine t p b).1.lines ∧ Ex w w' := by
 have HX := zq hx
 clear hx
 cases hv : cacheV t
 ·have e : wireLine t p b = (noCache, false) := if_neg (fun h => by rw [hv] at h; cases h.1)
  rw [e]
  clear e
  go_enter Tryz.func107, Tryz.ntmps107
  go_wp2_with fail
  refine name_calls ?_; intro v1 hv1
  have X1 : Hid (Chg (0) (0) w v1) := zx hv1
  have t1 := X1.out.size
  have Ev1 := zq ((Ex.refl w).chg X1.out (by omega))
  have KX : Hid (Blk v1 (w.heap.size) 29 [.slice A t.lines.length c, .int .i64 t.hand]) := zk hv1
  have lX : w.heap.size < v1.heap.size := KX.out.lt
  have KR : Hid (Blk v1 (w.heap.size + 1) 29 [.slice none 0 0, .int .i64 0]) := zk hv1
  have lR : w.heap.size + 1 < v1.heap.size := KR.out.lt
  have DX := zq (HX.out.ex Ev1.out)
  clear hv1
  refine (cacheValidS_c t A c _ DX.out hn hc).mono ?_; rintro r w1 ⟨rfl, hb1⟩
  have Y1 := zq (Chg.of_ex hb1)
  have s1 := Y1.out.size
  have Ew1 := zq (Ev1.out.chg Y1.out (by omega))
  clear hb1
  replace KX := zq (KX.out.chg Y1.out (by omega))
  replace KR := zq (KR.out.chg Y1.out (by omega))
  replace DX := zq (HX.out.ex Ew1.out)
  obtain ⟨qX0, qX1⟩ := KX.out.c2
  have jX := KX.out.lt
  obtain ⟨qR0, qR1⟩ := KR.out.c2
  have jR := KR.out.lt
  have zR := KR.out.frozen
  rw [hv]
  go_wp2
  exact bodyPost_ret (v := .tuple #[.agg #[.slice none 0 0, .int .i64 0], .bool false]) (by simp [results, Tryz.results107, go_sem, qR0, qR1]) rfl
   ⟨none, 0, rfl, Fr.none_ _ _ _ _, (Ew1.out.set (Nat.le_add_right _ 1) _).set (Nat.le_add_right _ 1) _⟩
 by_cases hp0 : p < 0
 ·have e : wireLine t p b = (noCache, false) := if_neg (fun h => by have := inB_true.1 h.2.1; omega)
  rw [e]
  clear e
  go_enter Tryz.func107, Tryz.ntmps107
  go_wp2_with fail
  refine name_calls ?_; intro v1 hv1
  have X1 : Hid (Chg (0) (0) w v1) := zx hv1
  have t1 := X1.out.size
  have Ev1 := zq ((Ex.refl w).chg X1.out (by omega))
  have KX : Hid (Blk v1 (w.heap.size) 29 [.slice A t.lines.length c, .int .i64 t.hand]) := zk hv1
  have lX : w.heap.size < v1.heap.size := KX.out.lt
  have KR : Hid (Blk v1 (w.heap.size + 1) 29 [.slice none 0 0, .int .i64 0]) := zk hv1
  have lR : w.heap.size + 1 < v1.heap.size := KR.out.lt
  have DX := zq (HX.out.ex Ev1.out)
  clear hv1
  refine (cacheValidS_c t A c _ DX.out hn hc).mono ?_; rintro r w1 ⟨rfl, hb1⟩
  have Y1 := zq (Chg.of_ex hb1)
  have s1 := Y1.out.size
  have Ew1 := zq (Ev1.out.chg Y1.out (by omega))
  clear hb1
  replace KX := zq (KX.out.chg Y1.out (by omega))
  replace KR := zq (KR.out.chg Y1.out (by omega))
  replace DX := zq (HX.out.ex Ew1.out)
  obtain ⟨qX0, qX1⟩ := KX.out.c2
  have jX := KX.out.lt
  obtain ⟨qR0, qR1⟩ := KR.out.c2
  have jR := KR.out.lt
  have zR := KR.out.frozen
  rw [hv]
  go_wp2
  exact bodyPost_ret (v := .tuple #[.agg #[.slice none 0 0, .int .i64 0], .bool false]) (by simp [results, Tryz.results107, go_sem, qR0, qR1]) rfl
   ⟨none, 0, rfl, Fr.none_ _ _ _ _, (Ew1.out.set (Nat.le_add_right _ 1) _).set (Nat.le_add_right _ 1) _⟩
 obtain ⟨k, rfl⟩ := Int.eq_ofNat_of_zero_le (show 0 ≤ p by omega)
 by_cases hkn : t.lines.length ≤ k
 ·have e : wireLine t k b = (noCache, false) := if_neg (fun h => by have := inB_true.1 h.2.1; omega)
  rw [e]
  clear e
  have hkn' : (t.lines.length : Int) ≤ (k : Int) := by omega
  go_enter Tryz.func107, Tryz.ntmps107
  go_wp2_with fail
  refine name_calls ?_; intro v1 hv1
  have X1 : Hid (Chg (0) (0) w v1) := zx hv1
  have t1 := X1.out.size
  have Ev1 := zq ((Ex.refl w).chg X1.out (by omega))
  have KX : Hid (Blk v1 (w.heap.size) 29 [.slice A t.lines.length c, .int .i64 t.hand]) := zk hv1
  have lX : w.heap.size < v1.heap.size := KX.out.lt
  have KR : Hid (Blk v1 (w.heap.size + 1) 29 [.slice none 0 0, .int .i64 0]) := zk hv1
  have lR : w.heap.size + 1 < v1.heap.size := KR.out.lt
  have DX := zq (HX.out.ex Ev1.out)
  clear hv1
  refine (cacheValidS_c t A c _ DX.out hn hc).mono ?_; rintro r w1 ⟨rfl, hb1⟩
  have Y1 := zq (Chg.of_ex hb1)
  have s1 := Y1.out.size
  have Ew1 := zq (Ev1.out.chg Y1.out (by omega))
  clear hb1
  replace KX := zq (KX.out.chg Y1.out (by omega))
  replace KR := zq (KR.out.chg Y1.out (by omega))
  replace DX := zq (HX.out.ex Ew1.out)
  obtain ⟨qX0, qX1⟩ := KX.out.c2
  have jX := KX.out.lt
  obtain ⟨qR0, qR1⟩ := KR.out.c2
  have jR := KR.out.lt
  have zR := KR.out.frozen
  rw [hv]
  go_wp2
  exact bodyPost_ret (v := .tuple #[.agg #[.slice none 0 0, .int .i64 0], .bool false]) (by simp [results, Tryz.results107, go_sem, qR0, qR1]) rfl
   ⟨none, 0, rfl, Fr.none_ _ _ _ _, (Ew1.out.set (Nat.le_add_right _ 1) _).set (Nat.le_add_right _ 1) _⟩
 have hk : inB k t.lines.length = true := inB_true.2 (by omega)
 have HK := zq hk
 have hkn : k < t.lines.length := by omega
 have hkn' : ¬ (t.lines.length : Int) ≤ (k : Int) := by omega
 have hxk := List.getElem?_eq_getElem hkn
 generalize t.lines[k] = x at hxk
 have hgd := getD_of (d := noLine) hxk
 have HXK := zq hxk
 have HGD := zq hgd
 clear hxk hk hp0 hgd
 cases hxv : x.valid
 ·have e : wireLine t k b = (noCache, false) := if_neg (fun h => by have := h.2.2.1; rw [Int.toNat_natCast, HGD.out, hxv] at this; cases this)
  rw [e]
  clear e
  go_enter Tryz.func107, Tryz.ntmps107
  go_wp2_with fail
  refine name_calls ?_; intro v1 hv1
  have X1 : Hid (Chg (0) (0) w v1) := zx hv1
  have t1 := X1.out.size
  have Ev1 := zq ((Ex.refl w).chg X1.out (by omega))
  have KX : Hid (Blk v1 (w.heap.size) 29 [.slice A t.lines.length c, .int .i64 t.hand]) := zk hv1
  have lX : w.heap.size < v1.heap.size := KX.out.lt
  have KR : Hid (Blk v1 (w.heap.size + 1) 29 [.slice none 0 0, .int .i64 0]) := zk hv1
  have lR : w.heap.size + 1 < v1.heap.size := KR.out.lt
  have DX := zq (HX.out.ex Ev1.out)
  clear hv1
  refine (cacheValidS_c t A c _ DX.out hn hc).mono ?_; rintro r w1 ⟨rfl, hb1⟩
  have Y1 := zq (Chg.of_ex hb1)
  have s1 := Y1.out.size
  have Ew1 := zq (Ev1.out.chg Y1.out (by omega))
  clear hb1
  replace KX := zq (KX.out.chg Y1.out (by omega))
  replace KR := zq (KR.out.chg Y1.out (by omega))
  replace DX := zq (HX.out.ex Ew1.out)
  obtain ⟨qX0, qX1⟩ := KX.out.c2
  have jX := KX.out.lt
  obtain ⟨qR0, qR1⟩ := KR.out.c2
  have jR := KR.out.lt
  have zR := KR.out.frozen
  rw [hv]
  obtain ⟨a1, o1, x', rfl, hb1, hxk', h0, h1, h2, h3, h4, h5⟩ := Rd.line DX.out (k := k) hkn
  obtain rfl : x = x' := by have := HXK.out; rw [hxk'] at this; injection this with this; exact this.symm
  rw [hxv] at h0
  clear hxk'
  go_wp2
  exact bodyPost_ret (v := .tuple #[.agg #[.slice none 0 0, .int .i64 0], .bool false]) (by simp [results, Tryz.results107, go_sem, qR0, qR1]) rfl
   ⟨none, 0, rfl, Fr.none_ _ _ _ _, (Ew1.out.set (Nat.le_add_right _ 1) _).set (Nat.le_add_right _ 1) _⟩
 obtain ⟨xv, xt, xp, xf, xr, xw⟩ := x
 simp only at hxv
 subst hxv
 obtain ⟨a1, o1, hA, -, -⟩ := HX.out (by omega)
 subst hA
 have hce : wireOut t k b = ⟨t.lines.set k ⟨true, xt, xp, xf, xr, b⟩, t.hand⟩ := by unfold wireOut; rw [HGD.out]
 have HV3 : Hid (∀ g c2 w', Rd w' (some ⟨g, 0, none⟩) (t.lines.set k ⟨true, xt, xp, xf, xr, b⟩) → t.lines.length ≤ c2 → Calls Tryz.prog 47 #[.agg #[.slice (some ⟨g, 0, none⟩) t.lines.length c2, .int .i64 t.hand]] w' fun r w'' => r = .returned (.bool (cacheV (wireOut t k b))) ∧ Ex w' w'') := zq (fun g c2 w' hr hc3 => by
  have := cacheValidS_c ⟨t.lines.set k ⟨true, xt, xp, xf, xr, b⟩, t.hand⟩ (some ⟨g, 0, none⟩) c2 w' hr (by simp; omega) (by simp; exact hc3)
  rw [hce]
  simpa using this)
 have HF : Hid (wireLine t k b = if cacheV (wireOut t k b) = true then (⟨t.lines.set k ⟨true, xt, xp, xf, xr, b⟩, t.hand⟩, true) else (noCache, false)) := zq (by
  unfold wireLine
  rw [Int.toNat_natCast, HGD.out, hce]
  simp [hv, HK.out])
 clear hce
 generalize cacheV (wireOut t k b) = co at HV3 HF
 cases co
 all_goals
  rw [HF.out]
  simp only [Bool.false_eq_true, if_false, if_true]
  go_enter Tryz.func107, Tryz.ntmps107
  go_wp2_with fail
  refine name_calls ?_; intro v1 hv1
  have X1 : Hid (Chg (0) (0) w v1) := zx hv1
  have t1 := X1.out.size
  have Ev1 := zq ((Ex.refl w).chg X1.out (by omega))
  have KX : Hid (Blk v1 (w.heap.size) 29 [.slice (some ⟨a1, o1, none⟩) t.lines.length c, .int .i64 t.hand]) := zk hv1
  have lX : w.heap.size < v1.heap.size := KX.out.lt
  have KR : Hid (Blk v1 (w.heap.size + 1) 29 [.slice none 0 0, .int .i64 0]) := zk hv1
  have lR : w.heap.size + 1 < v1.heap.size := KR.out.lt
  have DX := zq (HX.out.ex Ev1.out)
  clear hv1
  refine (cacheValidS_c t _ c _ DX.out hn hc).mono ?_; rintro r w1 ⟨rfl, hb1⟩
  have Y1 := zq (Chg.of_ex hb1)
  have s1 := Y1.out.size
  have Ew1 := zq (Ev1.out.chg Y1.out (by omega))
  clear hb1
  replace KX := zq (KX.out.chg Y1.out (by omega))
  replace KR := zq (KR.out.chg Y1.out (by omega))
  replace DX := zq (HX.out.ex Ew1.out)
  obtain ⟨qX0, qX1⟩ := KX.out.c2
  have jX := KX.out.lt
  obtain ⟨qR0, qR1⟩ := KR.out.c2
  have jR := KR.out.lt
  have zR := KR.out.frozen
  rw [hv]
  obtain ⟨x', hb1, hxk', h0, h1, h2, h3, h4, h5⟩ := Rd.line_known DX.out (k := k) hkn
  obtain rfl : (⟨true, xt, xp, xf, xr, xw⟩ : LineD) = x' := by have := HXK.out; rw [hxk'] at this; injection this with this; exact this.symm
  simp only at h0 h1 h2 h3 h4 h5
  clear hxk'
  go_wp2_with fail
  refine name_calls ?_; intro v2 hv2
  have X2 : Hid (Chg (0) (0) w1 v2) := zx hv2
  have t2 := X2.out.size
  have Ev2 := zq (Ew1.out.chg X2.out (by omega))
  clear qX0 qX1 jX
  clear qR0 qR1 jR zR
  replace KX := zq (KX.out.chg X2.out (by omega))
  replace KR := zq (KR.out.chg X2.out (by omega))
  replace DX := zq (HX.out.ex Ev2.out)
  clear hv2
  refine (l4Copy_c t _ c _ DX.out hn hc hc2).mono ?_; rintro r w2 ⟨A2, c2, rfl, hf2, hb2⟩
  have Y2 := zq (Chg.of_ex hb2)
  have s2 := Y2.out.size
  have Ew2 := zq (Ev2.out.chg Y2.out (by omega))
  clear hb2
  replace KX := zq (KX.out.chg Y2.out (by omega))
  replace KR := zq (KR.out.chg Y2.out (by omega))
  replace DX := zq (HX.out.ex Ew2.out)
  have HF2 := zq hf2; clear hf2
  have WHF2 := zq HF2.out.row
  obtain ⟨qX0, qX1⟩ := KX.out.c2
  have jX := KX.out.lt
  obtain ⟨qR0, qR1⟩ := KR.out.c2
  have jR := KR.out.lt
  have zR := KR.out.frozen
  clear h0 h1 h2 h3 h4 h5
  obtain ⟨g, rest, rfl, hBg, hbk, hrest⟩ := HF2.out.open_ hkn
  have HBK := zq hbk
  have HR := zq hrest
  have hle := HF2.out.le
  have hca := HF2.out.cap
  obtain ⟨d0, d1, d2, d3, d4, d5⟩ := hbk.line HXK.out
  have hfz := hbk.frozen
  have lg := Blk.lt hbk
  clear hbk hrest
  go_wp2_with fail
  refine name_calls ?_; intro v3 hv3
  have X3 : Hid (Chg (g) (g + 1) w2 v3) := zx hv3
  have t3 := X3.out.size
  have Ev3 := zq (Ew2.out.chg X3.out (by omega))
  clear qX0 qX1 jX
  clear qR0 qR1 jR zR
  replace KX := zq (KX.out.chg X3.out (by omega))
  replace KR := zq (KR.out.chg X3.out (by omega))
  have HBN : Hid (Bk 64 v3 g (t.lines.set k ⟨true, xt, xp, xf, xr, b⟩) rest) := zq (by rw [hv3]; exact (Bk.set HBK.out (k := k) (j := 5) (off := k * 6 + 5) (u := .bool b) (y := ⟨true, xt, xp, xf, xr, b⟩) HXK.out (by decide) rfl (by simp [sz])).alloc _)
  clear HF2 WHF2
  have KO : Hid (Blk v3 (w2.heap.size) 29 [.slice (some ⟨g, 0, none⟩) t.lines.length c2, .int .i64 t.hand]) := zk hv3
  have lO : w2.heap.size < v3.heap.size := KO.out.lt
  replace DX := zq (HX.out.ex Ev3.out)
  clear hv3
  refine (HV3.out g c2 _ HBN.out.rd hle).mono ?_; rintro r w3 ⟨rfl, hb3⟩
  have Y3 := zq (Chg.of_ex hb3)
  have s3 := Y3.out.size
  have Ew3 := zq (Ev3.out.chg Y3.out (by omega))
  clear hb3
  replace KX := zq (KX.out.chg Y3.out (by omega))
  replace KR := zq (KR.out.chg Y3.out (by omega))
  replace KO := zq (KO.out.chg Y3.out (by omega))
  replace DX := zq (HX.out.ex Ew3.out)
  obtain ⟨qX0, qX1⟩ := KX.out.c2
  have jX := KX.out.lt
  obtain ⟨qR0, qR1⟩ := KR.out.c2
  have jR := KR.out.lt
  have zR := KR.out.frozen
  obtain ⟨qO0, qO1⟩ := KO.out.c2
  have jO := KO.out.lt
 ·go_wp2
  exact bodyPost_ret (v := .tuple #[.agg #[.slice none 0 0, .int .i64 0], .bool false]) (by simp [results, Tryz.results107, go_sem, qR0, qR1]) rfl
   ⟨none, 0, rfl, Fr.none_ _ _ _ _, (Ew3.out.set (Nat.le_add_right _ 1) _).set (Nat.le_add_right _ 1) _⟩
 ·go_wp2
  exact bodyPost_ret (v := .tuple #[.agg #[.slice (some ⟨g, 0, none⟩) t.lines.length c2, .int .i64 t.hand], .bool true]) (by simp [results, Tryz.results107, go_sem, qR0, qR1]) rfl
   ⟨some ⟨g, 0, none⟩, c2, by simp, Fr.close (((HBN.out.ex Y3.out.ex_).far (by simp; omega) _).far (by simp; omega) _) (by omega) (by rw [List.length_set]; exact HR.out) (by simp; omega) hca, (Ew3.out.set (Nat.le_add_right _ 1) _).set (Nat.le_add_right _ 1) _⟩
end Go.Proofs.YtbdlpbladpppjaaGreatDoor
