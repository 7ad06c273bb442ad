/- Drawn caches: two values to compare. -/
import Derived.Test.YtidnefcnojedoaaDc
import Derived.Test.YtidnefcnojedoaaSc
namespace Go.Proofs.Ytidnefcnojedoaa
open Go.ChangeShapes Go.WideShapes Go.ChangeAt Go.RowKit
open Rec (sz cs)
set_option linter.unusedVariables false
set_option maxRecDepth 100000

def SomeTwoC (w : World) (e : Ending) (w' : World) : Prop := ∃ (t u : CacheD) (A : Option Addr) (c : Nat) (B : Option Addr) (d : Nat), e = .returned (.tuple #[.agg #[.slice A t.lines.length c, .int .i64 t.hand], .agg #[.slice B u.lines.length d, .int .i64 u.hand]]) ∧ Few t ∧ Few u ∧ Fr 43 w' w.heap.size A c t.lines ∧ Fr 43 w' w.heap.size B d u.lines ∧ Ex w w'

/-- A box of a cache is no row of bytes: so the reader reads as before behind a store to it. -/
theorem Rdr.putc {w : World} {g p R i : Nat} {T : TypeId} {b n c : _} {A : Option Addr} (h : Rdr w g p) (k : Blk w R T [.slice A n c, .int .i64 b]) (hne : R ≠ g) (v : Value) : Rdr (w.setCell ⟨R, i, none⟩ v) g p := by
  obtain ⟨B, cc, bs, h1, h2, h3, h4, h5, h6⟩ := h
  refine ⟨B, cc, bs, h1.far (fun e => hne e.symm) v, ?_, h3, h4, h5, h6⟩
  intro h0
  obtain ⟨bb, o, e, hb, hc⟩ := h2 h0
  obtain ⟨bb', o', x, e', _, _, hx⟩ := Rd.byte h2 (k := 0) h0
  rw [e] at e'
  injection e' with e'
  injection e' with e1 e2
  subst e1 e2
  have hbR : bb ≠ R := by
    rintro rfl
    have hc2 := k.cell (o + 0)
    rw [hx] at hc2
    match o, hc2 with
    | 0, hc2 => simp at hc2
    | 1, hc2 => simp at hc2
    | j + 2, hc2 => simp at hc2
  exact ⟨bb, o, e, by simpa using hb, fun m u hu => (World.cell?_setCell_other w ⟨R, i, none⟩ ⟨bb, o + m, none⟩ _ (by intro e; injection e with e1; exact hbR e1.symm)).trans (hc m u hu)⟩

/-- All that the calls ask of a world, and keep. -/
structure TwoC (g gT R lo : Nat) (t : CacheD) (A2 : Option Addr) (c2 : Nat) (st : Bool) (p : Nat) (v : CacheD) (A : Option Addr) (c : Nat) (w w' : World) : Prop where
  nums : R + 1 < g ∧ R + 1 < lo ∧ R + 1 < gT ∧ gT ≠ g ∧ w.heap.size ≤ R ∧ g < w'.heap.size ∧ gT < w'.heap.size ∧ lo ≤ w'.heap.size
  rdr : Rdr w' g p
  box : Blk w' gT 33 [.slice A2 t.lines.length c2, .int .i64 t.hand]
  r0 : st = false → Blk w' R 33 [.slice none 0 0, .int .i64 0]
  r0s : st = true → Blk w' R 33 [.slice A2 t.lines.length c2, .int .i64 t.hand]
  r1 : Blk w' (R + 1) 33 [.slice none 0 0, .int .i64 0]
  frt : Fr 43 w' lo A2 c2 t.lines
  frv : Fr 43 w' lo A c v.lines
  rowt : ∀ b, rowOf A2 c2 = some b → b ≠ g ∧ R + 1 < b
  rowv : ∀ b, rowOf A c = some b → R + 1 < b
  ex : Ex w w'
section
variable {g gT R lo p p' c2 c d n : Nat} {t v u : CacheD} {A2 A B : Option Addr} {st : Bool} {w w1 w2 : World}
theorem TwoC.drew (h : TwoC g gT R lo t A2 c2 st p v A c w w1) : TwoC g gT R lo t A2 c2 st p v A c w w1.drew :=
  ⟨h.nums, h.rdr.drew, h.box, h.r0, h.r0s, h.r1, h.frt, h.frv, h.rowt, h.rowv, h.ex.drew⟩
theorem TwoC.store (h : TwoC g gT R lo t A2 c2 false p v A c w w1) : TwoC g gT R lo t A2 c2 true p v A c w ((w1.setCell ⟨R, 0, none⟩ (.slice A2 t.lines.length c2)).setCell ⟨R, 1, none⟩ (.int .i64 t.hand)) := by
  obtain ⟨n1, n2, n3, n4, n5, n6, n7, n8⟩ := h.nums
  have b0 := h.r0 rfl
  have hne : R ≠ g := by omega
  have r1 : Rdr (w1.setCell ⟨R, 0, none⟩ (.slice A2 t.lines.length c2)) g p := Rdr.putc h.rdr b0 hne _
  have b1 : Blk (w1.setCell ⟨R, 0, none⟩ (.slice A2 t.lines.length c2)) R 33 [.slice A2 t.lines.length c2, .int .i64 0] := b0.set 0 _
  refine ⟨⟨n1, n2, n3, n4, n5, by simpa using n6, by simpa using n7, by simpa using n8⟩, Rdr.putc r1 b1 hne _, ?_, fun e => Bool.noConfusion e, fun _ => Blk.put2 b0, ?_, ?_, ?_, h.rowt, h.rowv, ?_⟩
  · exact (h.box.far (by simp only; omega) _).far (by simp only; omega) _
  · exact (h.r1.far (by simp only; omega) _).far (by simp only; omega) _
  · exact (h.frt.put (fun b hb => by have := h.rowt b hb; omega) _).put (fun b hb => by have := h.rowt b hb; omega) _
  · exact (h.frv.put (fun b hb => by have := h.rowv b hb; omega) _).put (fun b hb => by have := h.rowv b hb; omega) _
  · exact (h.ex.set n5 _).set n5 _
theorem TwoC.step (h : TwoC g gT R lo t A2 c2 st p v A c w w1) (hf : Fr 43 w2 w1.heap.size B d u.lines) (hr : Rdr w2 g p') (hg : w1.grownBy w2 (some g)) : TwoC g gT R lo t A2 c2 st p' u B d w w2 := by
  obtain ⟨n1, n2, n3, n4, n5, n6, n7, n8⟩ := h.nums
  have hs := hg.size
  refine ⟨⟨n1, n2, n3, n4, n5, by omega, by omega, by omega⟩, hr, h.box.grown hg (fun e => n4 (by injection e)), fun e => (h.r0 e).grown hg (fun e => by injection e with e; omega), fun e => (h.r0s e).grown hg (fun e => by injection e with e; omega), h.r1.grown hg (fun e => by injection e with e; omega), ?_, hf.mono (by omega), h.rowt, fun b hb => by have := hf.row b hb; omega, ?_⟩
  · refine h.frt.grown hg fun b hb => ?_
    injection hb with hb
    by_cases hc : c2 = 0
    · exact .inl hc
    · refine .inr fun e => ?_
      subst e
      exact (h.rowt b (rowOf_some (by omega))).1 hb.symm
  · exact h.ex.grown hg (fun b hb => by injection hb with hb; omega)
end

set_option maxHeartbeats 8000000 in
theorem drawCacheSame_c (A : Option Addr) (c : Nat) (bs : List ByteD) (w : World) (hx : Rd w A bs) (hb : Bytes bs) (hn : bs.length ≤ 1048576) (hc : bs.length ≤ c) (hcm : c ≤ maxLen) :
    Calls Try.prog 11 #[.slice A bs.length c] w (SomeTwoC w) := by
  have C0 := Lib.hid (fun w' (h : Ex w w') => l12Open_c A c bs w' (hx.ex h) hb hn hc hcm)
  generalize bs.length = n at C0 hn hc
  clear hx hb hn hc hcm
  go_enter Try.func11, Try.ntmps11
  go_wp2_with fail
  refine name_calls ?_; intro v1 hv1
  have X1 : Hid (Chg (0) (0) w v1) := Lib.hid (by rw [hv1]; repeat' (first | with_reducible exact Chg.refl _ _ _ | with_reducible refine Chg.alloc ?_ _ | with_reducible refine Chg.drew ?_ | with_reducible refine Chg.set ?_ (by omega) _))
  have t1 : w.heap.size ≤ v1.heap.size := X1.out.size
  have Ev1 : Hid (Ex w v1) := Lib.hid ((Ex.refl w).chg X1.out (by omega))
  have KR : Hid (Blk v1 (w.heap.size) 33 [.slice none 0 0, .int .i64 0]) := Lib.hid (by rw [hv1]; exact (Blk.new _ _ _).alloc _)
  have lR : w.heap.size < v1.heap.size := KR.out.lt
  have KS : Hid (Blk v1 (w.heap.size + 1) 33 [.slice none 0 0, .int .i64 0]) := Lib.hid (by rw [hv1]; exact Blk.new_at _ _ _ (by simp))
  have lS : w.heap.size + 1 < v1.heap.size := KS.out.lt
  clear hv1
  refine (C0.out _ Ev1.out).mono ?_; rintro r w1 ⟨g, rfl, hrd1, hg1, hb1⟩
  have Y1 : Hid (Chg 0 0 v1 w1) := Lib.hid (Chg.of_ex hb1)
  have s1 : v1.heap.size ≤ w1.heap.size := Y1.out.size
  have Ew1 : Hid (Ex w w1) := Lib.hid (Ev1.out.chg Y1.out (by omega))
  clear hb1
  replace KR : Hid (Blk w1 (w.heap.size) 33 [.slice none 0 0, .int .i64 0]) := Lib.hid (KR.out.chg Y1.out (by omega))
  replace KS : Hid (Blk w1 (w.heap.size + 1) 33 [.slice none 0 0, .int .i64 0]) := Lib.hid (KS.out.chg Y1.out (by omega))
  have HRD1 := Lib.hid hrd1; clear hrd1
  obtain ⟨qR0, qR1⟩ := KR.out.c2
  have jR := KR.out.lt
  obtain ⟨qS0, qS1⟩ := KS.out.c2
  have jS := KS.out.lt
  have lg : g < w1.heap.size := HRD1.out.lt
  go_wp2_with fail
  refine name_calls ?_; intro v2 hv2
  have X2 : Hid (Chg (0) (0) w1 v2) := Lib.hid (by rw [hv2]; repeat' (first | with_reducible exact Chg.refl _ _ _ | with_reducible refine Chg.alloc ?_ _ | with_reducible refine Chg.drew ?_ | with_reducible refine Chg.set ?_ (by omega) _))
  have t2 : w1.heap.size ≤ v2.heap.size := X2.out.size
  have Ev2 : Hid (Ex w v2) := Lib.hid (Ew1.out.chg X2.out (by omega))
  clear qR0 qR1 jR
  clear qS0 qS1 jS
  replace KR : Hid (Blk v2 (w.heap.size) 33 [.slice none 0 0, .int .i64 0]) := Lib.hid (KR.out.chg X2.out (by omega))
  replace KS : Hid (Blk v2 (w.heap.size + 1) 33 [.slice none 0 0, .int .i64 0]) := Lib.hid (KS.out.chg X2.out (by omega))
  replace HRD1 := Lib.hid (HRD1.out.chg X2.out (by omega))
  clear hv2
  refine (l4Draw_c g 0 _ HRD1.out (by omega)).mono ?_; rintro r w2 ⟨t, A2, c2, p2, rfl, hd, hf2, hrd2, hp2, hb2⟩
  have Y2 : Hid (Chg (g) (g + 1) v2 w2) := Lib.hid (Chg.of_grown hb2 (fun b hb => by injection hb with hb; omega))
  have s2 : v2.heap.size ≤ w2.heap.size := Y2.out.size
  have Ew2 : Hid (Ex w w2) := Lib.hid (Ev2.out.chg Y2.out (by omega))
  clear hb2
  replace KR : Hid (Blk w2 (w.heap.size) 33 [.slice none 0 0, .int .i64 0]) := Lib.hid (KR.out.chg Y2.out (by omega))
  replace KS : Hid (Blk w2 (w.heap.size + 1) 33 [.slice none 0 0, .int .i64 0]) := Lib.hid (KS.out.chg Y2.out (by omega))
  clear HRD1
  have HF2 := Lib.hid hf2; clear hf2
  have WHF2 := Lib.hid HF2.out.row
  have HRD2 := Lib.hid hrd2; clear hrd2
  obtain ⟨qR0, qR1⟩ := KR.out.c2
  have jR := KR.out.lt
  obtain ⟨qS0, qS1⟩ := KS.out.c2
  have jS := KS.out.lt
  have HD := Lib.hid hd
  clear hd
  go_wp2_with fail
  refine name_calls ?_; intro v3 hv3
  have X3 : Hid (Chg (0) (0) w2 v3) := Lib.hid (by rw [hv3]; repeat' (first | with_reducible exact Chg.refl _ _ _ | with_reducible refine Chg.alloc ?_ _ | with_reducible refine Chg.drew ?_ | with_reducible refine Chg.set ?_ (by omega) _))
  have t3 : w2.heap.size ≤ v3.heap.size := X3.out.size
  have Ev3 : Hid (Ex w v3) := Lib.hid (Ew2.out.chg X3.out (by omega))
  clear qR0 qR1 jR
  clear qS0 qS1 jS
  replace KR : Hid (Blk v3 (w.heap.size) 33 [.slice none 0 0, .int .i64 0]) := Lib.hid (KR.out.chg X3.out (by omega))
  replace KS : Hid (Blk v3 (w.heap.size + 1) 33 [.slice none 0 0, .int .i64 0]) := Lib.hid (KS.out.chg X3.out (by omega))
  replace HF2 := Lib.hid (HF2.out.chg X3.out WHF2.out (by omega))
  replace HRD2 := Lib.hid (HRD2.out.chg X3.out (by omega))
  have KC : Hid (Blk v3 (w2.heap.size) 33 [.slice A2 t.lines.length c2, .int .i64 t.hand]) := Lib.hid (by rw [hv3]; repeat' (first | with_reducible exact Blk.new_at _ _ _ (by simp) | with_reducible refine Blk.alloc ?_ _ | with_reducible refine Blk.drew ?_ | with_reducible refine Blk.far ?_ (by simp; omega) _))
  have lC : w2.heap.size < v3.heap.size := KC.out.lt
  clear hv3
  refine (pick_c g p2 3 _ HRD2.out (by omega) (by omega)).mono ?_; rintro r w3 ⟨z3, rfl, hh3, hrd3, hb3⟩
  have Y3 : Hid (Chg (g) (g + 1) v3 w3) := Lib.hid (Chg.of_grown hb3 (fun b hb => by injection hb with hb; omega))
  have s3 : v3.heap.size ≤ w3.heap.size := Y3.out.size
  have Ew3 : Hid (Ex w w3) := Lib.hid (Ev3.out.chg Y3.out (by omega))
  clear hb3
  replace KR : Hid (Blk w3 (w.heap.size) 33 [.slice none 0 0, .int .i64 0]) := Lib.hid (KR.out.chg Y3.out (by omega))
  replace KS : Hid (Blk w3 (w.heap.size + 1) 33 [.slice none 0 0, .int .i64 0]) := Lib.hid (KS.out.chg Y3.out (by omega))
  replace KC : Hid (Blk w3 (w2.heap.size) 33 [.slice A2 t.lines.length c2, .int .i64 t.hand]) := Lib.hid (KC.out.chg Y3.out (by omega))
  replace HF2 := Lib.hid (HF2.out.chg Y3.out WHF2.out (by omega))
  clear HRD2
  have HRD3 := Lib.hid hrd3; clear hrd3
  have HH3 := Lib.hid hh3; clear hh3
  obtain ⟨qR0, qR1⟩ := KR.out.c2
  have jR := KR.out.lt
  obtain ⟨qS0, qS1⟩ := KS.out.c2
  have jS := KS.out.lt
  obtain ⟨qC0, qC1⟩ := KC.out.c2
  have jC := KC.out.lt
  obtain ⟨gT, hgT⟩ : ∃ gT : Nat, gT = w2.heap.size := ⟨_, rfl⟩
  have hgTw : w.heap.size + 1 < gT := by omega
  have hgTg : g < gT := by omega
  have hgT3 : gT < w3.heap.size := KC.out.lt |> fun h => by omega
  rw [← hgT] at KC qC0 qC1 jC ⊢
  have TB : Hid (TwoC g gT w.heap.size v2.heap.size t A2 c2 false (p2 + 1) t A2 c2 w w3) := Lib.hid
    ⟨by omega, HRD3.out, KC.out, fun _ => KR.out, fun e => Bool.noConfusion e, KS.out, HF2.out, HF2.out, fun b hb => by have := WHF2.out b hb; omega, fun b hb => by have := WHF2.out b hb; omega, Ew3.out⟩
  have CED : Hid (∀ (args : Array Value) (w : World), (callFunc 23 args).run Try.prog w = .ok (.enter 23 args) w) := Lib.hid (enters Try.func23 (by kernel_rfl) (by kernel_rfl))
  have CEW : Hid (∀ (args : Array Value) (w : World), (callFunc 25 args).run Try.prog w = .ok (.enter 25 args) w) := Lib.hid (enters Try.func25 (by kernel_rfl) (by kernel_rfl))
  have HP0 : Hid (p2 + 1 ≤ 800000) := Lib.hid (by omega)
  have HP1 : Hid (p2 + 1 ≤ 1000) := Lib.hid (by omega)
  have Q1 : Hid (1000 ≤ 900000) := Lib.hid (by omega)
  have Q2 : Hid (1000 + 10 ≤ 900000) := Lib.hid (by omega)
  clear hgT
  clear qC0 qC1 jC
  clear KC
  clear qR0 qR1 jR
  clear KR
  clear qS0 qS1 jS
  clear KS
  clear HF2 WHF2
  clear HRD3
  obtain ⟨xB0, xB1⟩ := TB.out.box.c2
  have xBl := TB.out.box.lt
  have zB := TB.out.r0 rfl
  obtain ⟨zB0, zB1⟩ := zB.c2
  have zBf := zB.frozen
  have zBl := zB.lt
  obtain ⟨yB0, yB1⟩ := TB.out.r1.c2
  have yBf := TB.out.r1.frozen
  have hTR : ¬ gT = w.heap.size := by omega
  have hRT : ¬ w.heap.size = gT := by omega
  have hTS : ¬ gT = w.heap.size + 1 := by omega
  by_cases hz : z3 = 0
  · have hz' : (z3 == 0) = true := by simp [hz]
    clear hz
    go_wp2_with fail
    go_region_law (first | (refine step_call rfl CED.out _ _ rfl #[.pointer (some ⟨g, 0, none⟩)] rfl (l4Draw_c g (p2 + 1) _ (TwoC.drew TB.out).rdr HP0.out) ?_; rintro r wa ⟨ua, Aa, ca, pa, rfl, hd1, hf1, hr1, hp1, hg1⟩; refine ⟨_, rfl, ?_⟩; have T1 := TwoC.step (TwoC.drew TB.out) hf1 hr1 hg1; obtain ⟨x10, x11⟩ := T1.box.c2; have x1l := T1.box.lt; obtain ⟨y10, y11⟩ := T1.r1.c2; have y1f := T1.r1.frozen; have y1l := T1.r1.lt; have z1 := T1.r0 rfl; obtain ⟨z10, z11⟩ := z1.c2; have z1f := z1.frozen; have z1l := z1.lt))
    all_goals
      have T4 := TwoC.store T1
      have z4 := T4.r0s rfl
      have hnum := T4.nums
      have e4 := T4.ex
      have hrv := T4.rowv
      have hft := T4.frt
      have hfv := T4.frv
      go_wp2
      exact bodyPost_ret (v := .tuple #[.agg #[.slice A2 t.lines.length c2, .int .i64 t.hand], .agg #[.slice Aa ua.lines.length ca, .int .i64 ua.hand]]) (by simp [results, Try.results11, go_sem, z10, z11, z1l, y10, y11, y1l]) rfl
        ⟨t, ua, A2, c2, Aa, ca, rfl, HD.out.few, hd1.few, Fr.mono (B := v2.heap.size) (by repeat' (first | with_reducible exact hft | with_reducible refine Fr.put ?_ (fun b hb => by have := T4.rowt b hb; omega) _)) (by omega), Fr.mono (B := v2.heap.size) (by repeat' (first | with_reducible exact hfv | with_reducible refine Fr.put ?_ (fun b hb => by have := hrv b hb; omega) _)) (by omega), by repeat' (first | with_reducible exact e4 | with_reducible refine Ex.put ?_ (by omega) _)⟩

  · have hz' : (z3 == 0) = false := by simp [hz]
    clear hz
    go_wp2_with fail
    go_region_law (first | (refine step_call rfl CEW.out _ _ rfl #[.pointer (some ⟨g, 0, none⟩), .agg #[.slice A2 t.lines.length c2, .int .i64 t.hand]] rfl (l4Wrong_c g (p2 + 1) t A2 c2 _ (TwoC.drew TB.out).rdr (Nat.le_trans HP1.out Q1.out) HD.out.few (TwoC.drew TB.out).frv.rd (TwoC.drew TB.out).frv.le (TwoC.drew TB.out).frv.cap) ?_; rintro r wa ⟨ua, Aa, ca, pa, rfl, hw1, hf1, hr1, hp1, hg1⟩; refine ⟨_, rfl, ?_⟩; have T1 := TwoC.step (TwoC.drew TB.out) hf1 hr1 hg1; have HP2 := Lib.hid (Nat.le_trans hp1 (Nat.add_le_add_right HP1.out 10)); obtain ⟨x10, x11⟩ := T1.box.c2; have x1l := T1.box.lt; obtain ⟨y10, y11⟩ := T1.r1.c2; have y1f := T1.r1.frozen; have y1l := T1.r1.lt; have z1 := T1.r0 rfl; obtain ⟨z10, z11⟩ := z1.c2; have z1f := z1.frozen; have z1l := z1.lt) | (refine step_call rfl CEW.out _ _ rfl #[.pointer (some ⟨g, 0, none⟩), .agg #[.slice Aa ua.lines.length ca, .int .i64 ua.hand]] rfl (l4Wrong_c g pa ua Aa ca _ T1.rdr (Nat.le_trans HP2.out Q2.out) hw1 T1.frv.rd T1.frv.le T1.frv.cap) ?_; rintro r wb ⟨ub, Ab, cb, pb, rfl, hw2, hf2, hr2, hp2, hg2⟩; refine ⟨_, rfl, ?_⟩; have T2 := TwoC.step T1 hf2 hr2 hg2; have HP3 := Lib.hid (Nat.le_trans hp2 (Nat.add_le_add_right HP2.out 10)); obtain ⟨x20, x21⟩ := T2.box.c2; have x2l := T2.box.lt; obtain ⟨y20, y21⟩ := T2.r1.c2; have y2f := T2.r1.frozen; have y2l := T2.r1.lt; have z2 := T2.r0 rfl; obtain ⟨z20, z21⟩ := z2.c2; have z2f := z2.frozen; have z2l := z2.lt))
    all_goals
      have T4 := TwoC.store T2
      have z4 := T4.r0s rfl
      have hnum := T4.nums
      have e4 := T4.ex
      have hrv := T4.rowv
      have hft := T4.frt
      have hfv := T4.frv
      go_wp2
      exact bodyPost_ret (v := .tuple #[.agg #[.slice A2 t.lines.length c2, .int .i64 t.hand], .agg #[.slice Ab ub.lines.length cb, .int .i64 ub.hand]]) (by simp [results, Try.results11, go_sem, z20, z21, z2l, y20, y21, y2l]) rfl
        ⟨t, ub, A2, c2, Ab, cb, rfl, HD.out.few, hw2, Fr.mono (B := v2.heap.size) (by repeat' (first | with_reducible exact hft | with_reducible refine Fr.put ?_ (fun b hb => by have := T4.rowt b hb; omega) _)) (by omega), Fr.mono (B := v2.heap.size) (by repeat' (first | with_reducible exact hfv | with_reducible refine Fr.put ?_ (fun b hb => by have := hrv b hb; omega) _)) (by omega), by repeat' (first | with_reducible exact e4 | with_reducible refine Ex.put ?_ (by omega) _)⟩

end Go.Proofs.Ytidnefcnojedoaa
