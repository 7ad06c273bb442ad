/- Drawn tags: two values to compare. -/
import Derived.Test.YtidnefcnojedoaaSf
namespace Go.Proofs.Ytidnefcnojedoaa
open Go.ChangeShapes Go.WideShapes Go.ChangeAt Go.RowKit
open Rec (sz cs)
set_option linter.unusedVariables false
set_option maxRecDepth 100000

def SomeTwo (w : World) (e : Ending) (w' : World) : Prop := ∃ (t u : TagsD) (A : Option Addr) (c : Nat) (B : Option Addr) (d : Nat), e = .returned (.tuple #[.agg #[.int .i64 t.count, .int .i64 t.next, .int .i64 t.round, .slice A t.owns.length c], .agg #[.int .i64 u.count, .int .i64 u.next, .int .i64 u.round, .slice B u.owns.length d]]) ∧ t.owns.length ≤ 20 ∧ u.owns.length ≤ 20 ∧ Fr 50 w' w.heap.size A c t.owns ∧ Fr 50 w' w.heap.size B d u.owns ∧ Ex w w'

/-- A box of tags is no row of bytes: so the reader reads as before behind a store to it. -/
theorem Rdr.put {w : World} {g p R i : Nat} {T : TypeId} {a b d n c : _} {A : Option Addr} (h : Rdr w g p) (k : Blk w R T [.int .i64 a, .int .i64 b, .int .i64 d, .slice A n c]) (hne : R ≠ g) (v : Value) : Rdr (w.setCell ⟨R, i, none⟩ v) g p := by
  obtain ⟨B, cc, bs, h1, h2, h3, h4, h5, h6⟩ := h
  refine ⟨B, cc, bs, h1.far (fun e => hne e.symm) v, ?_, h3, h4, h5, h6⟩
  intro h0
  obtain ⟨bb, o, e, hb, hc⟩ := h2 h0
  obtain ⟨bb', o', x, e', _, _, hx⟩ := Rd.byte h2 (k := 0) h0
  rw [e] at e'
  injection e' with e'
  injection e' with e1 e2
  subst e1 e2
  have hbR : bb ≠ R := by
    rintro rfl
    have hc2 := k.cell (o + 0)
    rw [hx] at hc2
    match o, hc2 with
    | 0, hc2 => simp at hc2
    | 1, hc2 => simp at hc2
    | 2, hc2 => simp at hc2
    | 3, hc2 => simp at hc2
    | j + 4, hc2 => simp at hc2
  exact ⟨bb, o, e, by simpa using hb, fun m u hu => (World.cell?_setCell_other w ⟨R, i, none⟩ ⟨bb, o + m, none⟩ _ (by intro e; injection e with e1; exact hbR e1.symm)).trans (hc m u hu)⟩

/-- All that the three calls ask of a world, and keep. -/
structure Two (g gT R lo : Nat) (t : TagsD) (A2 : Option Addr) (c2 : Nat) (st : Bool) (p : Nat) (v : TagsD) (A : Option Addr) (c : Nat) (w w' : World) : Prop where
  nums : R + 1 < g ∧ R + 1 < lo ∧ R + 1 < gT ∧ gT ≠ g ∧ w.heap.size ≤ R ∧ g < w'.heap.size ∧ gT < w'.heap.size ∧ lo ≤ w'.heap.size
  rdr : Rdr w' g p
  box : Blk w' gT 25 [.int .i64 t.count, .int .i64 t.next, .int .i64 t.round, .slice A2 t.owns.length c2]
  r0 : st = false → Blk w' R 25 [.int .i64 0, .int .i64 0, .int .i64 0, .slice none 0 0]
  r0s : st = true → Blk w' R 25 [.int .i64 t.count, .int .i64 t.next, .int .i64 t.round, .slice A2 t.owns.length c2]
  r1 : Blk w' (R + 1) 25 [.int .i64 0, .int .i64 0, .int .i64 0, .slice none 0 0]
  frt : Fr 50 w' lo A2 c2 t.owns
  frv : Fr 50 w' lo A c v.owns
  rowt : ∀ b, rowOf A2 c2 = some b → b ≠ g ∧ R + 1 < b
  rowv : ∀ b, rowOf A c = some b → R + 1 < b
  ex : Ex w w'
section
variable {g gT R lo p p' c2 c d n : Nat} {t v u : TagsD} {A2 A B : Option Addr} {st : Bool} {w w1 w2 : World}
theorem Two.drew (h : Two g gT R lo t A2 c2 st p v A c w w1) : Two g gT R lo t A2 c2 st p v A c w w1.drew :=
  ⟨h.nums, h.rdr.drew, h.box, h.r0, h.r0s, h.r1, h.frt, h.frv, h.rowt, h.rowv, h.ex.drew⟩
theorem Two.store (h : Two g gT R lo t A2 c2 false p v A c w w1) : Two g gT R lo t A2 c2 true p v A c w ((((w1.setCell ⟨R, 0, none⟩ (.int .i64 t.count)).setCell ⟨R, 1, none⟩ (.int .i64 t.next)).setCell ⟨R, 2, none⟩ (.int .i64 t.round)).setCell ⟨R, 3, none⟩ (.slice A2 t.owns.length c2)) := by
  obtain ⟨n1, n2, n3, n4, n5, n6, n7, n8⟩ := h.nums
  have b0 := h.r0 rfl
  have b1 := b0.set 0 (.int .i64 t.count)
  have b2 := b1.set 1 (.int .i64 t.next)
  have b3 := b2.set 2 (.int .i64 t.round)
  have hne : R ≠ g := by omega
  refine ⟨⟨n1, n2, n3, n4, n5, by simpa using n6, by simpa using n7, by simpa using n8⟩, ?_, ?_, fun e => Bool.noConfusion e, fun _ => Blk.put4 b0, ?_, ?_, ?_, h.rowt, h.rowv, ?_⟩
  · exact (((h.rdr.put b0 hne _).put b1 hne _).put b2 hne _).put b3 hne _
  · exact (((h.box.far (by simp only; omega) _).far (by simp only; omega) _).far (by simp only; omega) _).far (by simp only; omega) _
  · exact (((h.r1.far (by simp only; omega) _).far (by simp only; omega) _).far (by simp only; omega) _).far (by simp only; omega) _
  · exact (((h.frt.put (fun b hb => by have := h.rowt b hb; omega) _).put (fun b hb => by have := h.rowt b hb; omega) _).put (fun b hb => by have := h.rowt b hb; omega) _).put (fun b hb => by have := h.rowt b hb; omega) _
  · exact (((h.frv.put (fun b hb => by have := h.rowv b hb; omega) _).put (fun b hb => by have := h.rowv b hb; omega) _).put (fun b hb => by have := h.rowv b hb; omega) _).put (fun b hb => by have := h.rowv b hb; omega) _
  · exact (((h.ex.set n5 _).set n5 _).set n5 _).set n5 _
theorem Two.step (h : Two g gT R lo t A2 c2 st p v A c w w1) (hf : Fr 50 w2 w1.heap.size B d u.owns) (hr : Rdr w2 g p') (hg : w1.grownBy w2 (some g)) : Two g gT R lo t A2 c2 st p' u B d w w2 := by
  obtain ⟨n1, n2, n3, n4, n5, n6, n7, n8⟩ := h.nums
  have hs := hg.size
  refine ⟨⟨n1, n2, n3, n4, n5, by omega, by omega, by omega⟩, hr, h.box.grown hg (fun e => n4 (by injection e)), fun e => (h.r0 e).grown hg (fun e => by injection e with e; omega), fun e => (h.r0s e).grown hg (fun e => by injection e with e; omega), h.r1.grown hg (fun e => by injection e with e; omega), ?_, hf.mono (by omega), h.rowt, fun b hb => by have := hf.row b hb; omega, ?_⟩
  · refine h.frt.grown hg fun b hb => ?_
    injection hb with hb
    by_cases hc : c2 = 0
    · exact .inl hc
    · refine .inr fun e => ?_
      subst e
      exact (h.rowt b (rowOf_some (by omega))).1 hb.symm
  · exact h.ex.grown hg (fun b hb => by injection hb with hb; omega)
end

set_option maxHeartbeats 8000000 in
theorem drawTagsSame_c (A : Option Addr) (c : Nat) (bs : List ByteD) (w : World) (hx : Rd w A bs) (hb : Bytes bs) (hn : bs.length ≤ 1048576) (hc : bs.length ≤ c) (hcm : c ≤ maxLen) :
    Calls Try.prog 7 #[.slice A bs.length c] w (SomeTwo w) := by
  have C0 := Lib.hid (fun w' (h : Ex w w') => l12Open_c A c bs w' (hx.ex h) hb hn hc hcm)
  generalize bs.length = n at C0 hn hc
  clear hx hb hn hc hcm
  go_enter Try.func7, Try.ntmps7
  go_wp2_with fail
  refine name_calls ?_; intro v1 hv1
  have X1 : Hid (Chg (0) (0) w v1) := Lib.hid (by rw [hv1]; repeat' (first | with_reducible exact Chg.refl _ _ _ | with_reducible refine Chg.alloc ?_ _ | with_reducible refine Chg.drew ?_ | with_reducible refine Chg.set ?_ (by omega) _))
  have t1 : w.heap.size ≤ v1.heap.size := X1.out.size
  have Ev1 : Hid (Ex w v1) := Lib.hid ((Ex.refl w).chg X1.out (by omega))
  have KR : Hid (Blk v1 (w.heap.size) 25 [.int .i64 0, .int .i64 0, .int .i64 0, .slice none 0 0]) := Lib.hid (by rw [hv1]; exact (Blk.new _ _ _).alloc _)
  have lR : w.heap.size < v1.heap.size := KR.out.lt
  have KS : Hid (Blk v1 (w.heap.size + 1) 25 [.int .i64 0, .int .i64 0, .int .i64 0, .slice none 0 0]) := Lib.hid (by rw [hv1]; exact Blk.new_at _ _ _ (by simp))
  have lS : w.heap.size + 1 < v1.heap.size := KS.out.lt
  clear hv1
  refine (C0.out _ Ev1.out).mono ?_; rintro r w1 ⟨g, rfl, hrd1, hg1, hb1⟩
  have Y1 : Hid (Chg 0 0 v1 w1) := Lib.hid (Chg.of_ex hb1)
  have s1 : v1.heap.size ≤ w1.heap.size := Y1.out.size
  have Ew1 : Hid (Ex w w1) := Lib.hid (Ev1.out.chg Y1.out (by omega))
  clear hb1
  replace KR : Hid (Blk w1 (w.heap.size) 25 [.int .i64 0, .int .i64 0, .int .i64 0, .slice none 0 0]) := Lib.hid (KR.out.chg Y1.out (by omega))
  replace KS : Hid (Blk w1 (w.heap.size + 1) 25 [.int .i64 0, .int .i64 0, .int .i64 0, .slice none 0 0]) := Lib.hid (KS.out.chg Y1.out (by omega))
  have HRD1 := Lib.hid hrd1; clear hrd1
  obtain ⟨qR0, qR1, qR2, qR3⟩ := KR.out.c4
  have jR := KR.out.lt
  obtain ⟨qS0, qS1, qS2, qS3⟩ := KS.out.c4
  have jS := KS.out.lt
  have lg : g < w1.heap.size := HRD1.out.lt
  go_wp2_with fail
  refine name_calls ?_; intro v2 hv2
  have X2 : Hid (Chg (0) (0) w1 v2) := Lib.hid (by rw [hv2]; repeat' (first | with_reducible exact Chg.refl _ _ _ | with_reducible refine Chg.alloc ?_ _ | with_reducible refine Chg.drew ?_ | with_reducible refine Chg.set ?_ (by omega) _))
  have t2 : w1.heap.size ≤ v2.heap.size := X2.out.size
  have Ev2 : Hid (Ex w v2) := Lib.hid (Ew1.out.chg X2.out (by omega))
  clear qR0 qR1 qR2 qR3 jR
  clear qS0 qS1 qS2 qS3 jS
  replace KR : Hid (Blk v2 (w.heap.size) 25 [.int .i64 0, .int .i64 0, .int .i64 0, .slice none 0 0]) := Lib.hid (KR.out.chg X2.out (by omega))
  replace KS : Hid (Blk v2 (w.heap.size + 1) 25 [.int .i64 0, .int .i64 0, .int .i64 0, .slice none 0 0]) := Lib.hid (KS.out.chg X2.out (by omega))
  replace HRD1 := Lib.hid (HRD1.out.chg X2.out (by omega))
  clear hv2
  refine (l5Draw_c g 0 _ HRD1.out (by omega)).mono ?_; rintro r w2 ⟨t, A2, c2, p2, rfl, hl2, hf2, hrd2, hp2, hb2⟩
  have Y2 : Hid (Chg (g) (g + 1) v2 w2) := Lib.hid (Chg.of_grown hb2 (fun b hb => by injection hb with hb; omega))
  have s2 : v2.heap.size ≤ w2.heap.size := Y2.out.size
  have Ew2 : Hid (Ex w w2) := Lib.hid (Ev2.out.chg Y2.out (by omega))
  clear hb2
  replace KR : Hid (Blk w2 (w.heap.size) 25 [.int .i64 0, .int .i64 0, .int .i64 0, .slice none 0 0]) := Lib.hid (KR.out.chg Y2.out (by omega))
  replace KS : Hid (Blk w2 (w.heap.size + 1) 25 [.int .i64 0, .int .i64 0, .int .i64 0, .slice none 0 0]) := Lib.hid (KS.out.chg Y2.out (by omega))
  clear HRD1
  have HF2 := Lib.hid hf2; clear hf2
  have WHF2 := Lib.hid HF2.out.row
  have HRD2 := Lib.hid hrd2; clear hrd2
  obtain ⟨qR0, qR1, qR2, qR3⟩ := KR.out.c4
  have jR := KR.out.lt
  obtain ⟨qS0, qS1, qS2, qS3⟩ := KS.out.c4
  have jS := KS.out.lt
  go_wp2_with fail
  obtain ⟨wB, hwB⟩ : ∃ wB : World, wB = w2.alloc (.cells #[.int .i64 t.count, .int .i64 t.next, .int .i64 t.round, .slice A2 t.owns.length c2] 25) := ⟨_, rfl⟩
  obtain ⟨gT, hgT⟩ : ∃ gT : Nat, gT = w2.heap.size := ⟨_, rfl⟩
  have TB : Hid (Two g gT w.heap.size v2.heap.size t A2 c2 false p2 t A2 c2 w wB) := Lib.hid (by
    rw [hwB, hgT]
    exact ⟨by simp; omega, HRD2.out.alloc _, Blk.new _ _ _, fun _ => KR.out.alloc _, fun e => Bool.noConfusion e, KS.out.alloc _, HF2.out.alloc _, HF2.out.alloc _, fun b hb => by have := WHF2.out b hb; omega, fun b hb => by have := WHF2.out b hb; omega, Ew2.out.alloc _⟩)
  have hgTw : w.heap.size + 1 < gT := by omega
  rw [← hwB]
  try rw [← hgT]
  clear hwB hgT
  clear qR0 qR1 qR2 qR3 jR
  clear KR
  clear qS0 qS1 qS2 qS3 jS
  clear KS
  clear HF2 WHF2
  clear HRD2
  have CEW : Hid (∀ (args : Array Value) (w : World), (callFunc 20 args).run Try.prog w = .ok (.enter 20 args) w) := Lib.hid (enters Try.func20 (by kernel_rfl) (by kernel_rfl))
  have HP1 : Hid (p2 ≤ 100) := Lib.hid (by omega)
  have HL1 : Hid (t.owns.length ≤ 8) := Lib.hid hl2
  have Q1 : Hid (100 ≤ 800000) := Lib.hid (by omega)
  have Q2 : Hid (100 + 20 ≤ 800000) := Lib.hid (by omega)
  have Q3 : Hid (100 + 20 + 20 ≤ 800000) := Lib.hid (by omega)
  have P1 : Hid (8 ≤ 1000) := Lib.hid (by omega)
  have P2 : Hid (8 + 1 ≤ 1000) := Lib.hid (by omega)
  have P3 : Hid (8 + 1 + 1 ≤ 1000) := Lib.hid (by omega)
  obtain ⟨xB0, xB1, xB2, xB3⟩ := TB.out.box.c4
  have xBl := TB.out.box.lt
  have zB := TB.out.r0 rfl
  obtain ⟨zB0, zB1, zB2, zB3⟩ := zB.c4
  have zBf := zB.frozen
  have zBl := zB.lt
  obtain ⟨yB0, yB1, yB2, yB3⟩ := TB.out.r1.c4
  have yBf := TB.out.r1.frozen
  have hTR : ¬ gT = w.heap.size := by omega
  have hRT : ¬ w.heap.size = gT := by omega
  have hTS : ¬ gT = w.heap.size + 1 := by omega
  go_region_law (first | (refine step_call rfl CEW.out _ _ rfl #[.pointer (some ⟨g, 0, none⟩), .agg #[.int .i64 t.count, .int .i64 t.next, .int .i64 t.round, .slice A2 t.owns.length c2]] rfl (l5Wrong_c g p2 t A2 c2 _ (Two.drew TB.out).rdr (Nat.le_trans HP1.out Q1.out) (Two.drew TB.out).frv.rd (Nat.le_trans HL1.out P1.out) (Two.drew TB.out).frv.le (Two.drew TB.out).frv.cap) ?_; rintro r wa ⟨ua, Aa, ca, pa, rfl, hl1, hf1, hr1, hp1, hg1⟩; refine ⟨_, rfl, ?_⟩; have T1 := Two.step (Two.drew TB.out) hf1 hr1 hg1; have HP2 := Lib.hid (Nat.le_trans hp1 (Nat.add_le_add_right HP1.out 20)); have HL2 := Lib.hid (Nat.le_trans hl1 (Nat.add_le_add_right HL1.out 1)); obtain ⟨x10, x11, x12, x13⟩ := T1.box.c4; have x1l := T1.box.lt; obtain ⟨y10, y11, y12, y13⟩ := T1.r1.c4; have y1f := T1.r1.frozen; have y1l := T1.r1.lt; have z1 := T1.r0 rfl; obtain ⟨z10, z11, z12, z13⟩ := z1.c4; have z1f := z1.frozen; have z1l := z1.lt) | (refine step_call rfl CEW.out _ _ rfl #[.pointer (some ⟨g, 0, none⟩), .agg #[.int .i64 ua.count, .int .i64 ua.next, .int .i64 ua.round, .slice Aa ua.owns.length ca]] rfl (l5Wrong_c g pa ua Aa ca _ T1.rdr (Nat.le_trans HP2.out Q2.out) T1.frv.rd (Nat.le_trans HL2.out P2.out) T1.frv.le T1.frv.cap) ?_; rintro r wb ⟨ub, Ab, cb, pb, rfl, hl2, hf2, hr2, hp2, hg2⟩; refine ⟨_, rfl, ?_⟩; have T2 := Two.step T1 hf2 hr2 hg2; have HP3 := Lib.hid (Nat.le_trans hp2 (Nat.add_le_add_right HP2.out 20)); have HL3 := Lib.hid (Nat.le_trans hl2 (Nat.add_le_add_right HL2.out 1)); obtain ⟨x20, x21, x22, x23⟩ := T2.box.c4; have x2l := T2.box.lt; obtain ⟨y20, y21, y22, y23⟩ := T2.r1.c4; have y2f := T2.r1.frozen; have y2l := T2.r1.lt; have z2 := T2.r0 rfl; obtain ⟨z20, z21, z22, z23⟩ := z2.c4; have z2f := z2.frozen; have z2l := z2.lt) | (refine step_call rfl CEW.out _ _ rfl #[.pointer (some ⟨g, 0, none⟩), .agg #[.int .i64 ub.count, .int .i64 ub.next, .int .i64 ub.round, .slice Ab ub.owns.length cb]] rfl (l5Wrong_c g pb ub Ab cb _ T2.rdr (Nat.le_trans HP3.out Q3.out) T2.frv.rd (Nat.le_trans HL3.out P3.out) T2.frv.le T2.frv.cap) ?_; rintro r wc ⟨uc, Ac, cc, pc, rfl, hl3, hf3, hr3, hp3, hg3⟩; refine ⟨_, rfl, ?_⟩; have T3 := Two.step T2 hf3 hr3 hg3; have HP4 := Lib.hid (Nat.le_trans hp3 (Nat.add_le_add_right HP3.out 20)); have HL4 := Lib.hid (Nat.le_trans hl3 (Nat.add_le_add_right HL3.out 1)); obtain ⟨x30, x31, x32, x33⟩ := T3.box.c4; have x3l := T3.box.lt; obtain ⟨y30, y31, y32, y33⟩ := T3.r1.c4; have y3f := T3.r1.frozen; have y3l := T3.r1.lt; have z3 := T3.r0 rfl; obtain ⟨z30, z31, z32, z33⟩ := z3.c4; have z3f := z3.frozen; have z3l := z3.lt))
  all_goals
    have T4 := Two.store T3
    have z4 := T4.r0s rfl
    have hnum := T4.nums
    have e4 := T4.ex
    have hu := Nat.le_trans hl3 (Nat.add_le_add_right HL3.out 1)
    have hrv := T4.rowv
    have hft := T4.frt
    have hfv := T4.frv
    go_wp2
    exact bodyPost_ret (v := .tuple #[.agg #[.int .i64 t.count, .int .i64 t.next, .int .i64 t.round, .slice A2 t.owns.length c2], .agg #[.int .i64 uc.count, .int .i64 uc.next, .int .i64 uc.round, .slice Ac uc.owns.length cc]]) (by simp [results, Try.results7, go_sem, z30, z31, z32, z33, z3l, y30, y31, y32, y33, y3l]) rfl
      ⟨t, uc, A2, c2, Ac, cc, rfl, by omega, by omega, Fr.mono (B := v2.heap.size) (by repeat' (first | with_reducible exact hft | with_reducible refine Fr.put ?_ (fun b hb => by have := T4.rowt b hb; omega) _)) (by omega), Fr.mono (B := v2.heap.size) (by repeat' (first | with_reducible exact hfv | with_reducible refine Fr.put ?_ (fun b hb => by have := hrv b hb; omega) _)) (by omega), by repeat' (first | with_reducible exact e4 | with_reducible refine Ex.put ?_ (by omega) _)⟩
end Go.Proofs.Ytidnefcnojedoaa
