/- The law FnExactFillLine: the walk. -/
import Derived.Test.YtcaaficjcghheabCg
import Derived.Test.YtcaaficjcghheabChg
import Derived.Deep.RegionHeld3
import Derived.Deep.DeepCutAuto
namespace Go.Proofs.Ytcaaficjcghheab
open Go.ChangeShapes Go.WideShapes Go.ChangeAt Go.RowKit
open Rec (sz cs)
set_option linter.unusedVariables false
set_option maxRecDepth 100000

/-- What a drawn statement of the law leaves: a new box with a filled cache. -/
def FillCut (u : CacheD) (o0 : Int) (o1 : Bool) (wP : World) (sa sb sc : Value) (wx : World) : Prop := ∃ (gn lo hi : Nat) (A' : Option Addr) (c' : Nat), sa = .pointer (some ⟨gn, 0, none⟩) ∧ sb = .int .i64 o0 ∧ sc = .bool o1 ∧ Blk wx gn 25 [.slice A' u.lines.length c', .int .i64 u.hand] ∧ Fr 31 wx lo A' c' u.lines ∧ (∀ b, rowOf A' c' = some b → b < hi) ∧ Chg 0 0 wP wx ∧ wP.heap.size ≤ gn ∧ wP.heap.size ≤ lo ∧ hi ≤ wx.heap.size ∧ (gn < lo ∨ hi ≤ gn)

set_option maxHeartbeats 16000000 in
theorem walk_FnExactFillLine (t : CacheD) (A : Option Addr) (c : Nat) (x : LineD) (w : World) (hx : Rd w A t.lines) (hxl : t.lines.length ≤ maxLen) :
    Calls Try.prog 14 #[.agg #[.slice A t.lines.length c, .int .i64 t.hand], .agg #[.bool x.valid, .int .i64 x.tag, .int .i64 x.page, .int .i64 x.frame, .int .i64 x.rights, .bool x.wired]] w fun r w' => r = .returned (.bool true) ∧ Ex w w' := by
  have HX := Lib.hid hx
  have HXL := Lib.hid hxl
  clear hx hxl
  by_cases h1 : (1048576 : Int) < t.lines.length
  · go_enter Try.func14, Try.ntmps14
    go_wp2_with fail
    refine name_calls ?_; intro v1 hv1
    have X1 : Hid (Chg (0) (0) w v1) := Lib.hid (by rw [hv1]; repeat' (first | with_reducible exact Chg.refl _ _ _ | with_reducible refine Chg.alloc ?_ _ | with_reducible refine Chg.drew ?_ | with_reducible refine Chg.set ?_ (by omega) _))
    have t1 : w.heap.size ≤ v1.heap.size := X1.out.size
    have Ev1 : Hid (Ex w v1) := Lib.hid ((Ex.refl w).chg X1.out (by omega))
    clear hv1
    refine (szCache_c t _ _ _ _ (by omega) (by omega) HXL.out).mono ?_; rintro r w1 ⟨rfl, hb1⟩
    have Y1 : Hid (Chg 0 0 v1 w1) := Lib.hid (Chg.of_ex hb1)
    have s1 : v1.heap.size ≤ w1.heap.size := Y1.out.size
    have Ew1 : Hid (Ex w w1) := Lib.hid (Ev1.out.chg Y1.out (by omega))
    clear hb1
    rw [szI_neg (by omega)]
    go_wp2
    go_ret
    exact ⟨rfl, Ew1.out⟩
  have hn : t.lines.length ≤ 1048576 := by omega
  have h3 : ¬ ((1048576 : Int) - t.lines.length < 0) := by omega
  have C1 := Lib.hid (fillLineS_c t x)
  have C2 := Lib.hid (fillLineI_c t x)
  have hfew := fillLine_few t x hn
  generalize fillLine t x = qq at C1 C2 hfew
  obtain ⟨u, o0, o1⟩ := qq
  dsimp only at C1 C2 hfew
  have hv0 : (o0 != o0) = false := by simp
  have hv1 : (o1 != o1) = false := by simp
  have hnn : ¬ ((1 : Int) + 6 * (t.lines.length : Int) < 0) := by omega
  have hnu : ¬ ((1 : Int) + 6 * (u.lines.length : Int) < 0) := by omega
  go_enter Try.func14, Try.ntmps14
  go_wp2_with fail
  refine name_calls ?_; intro v1 hv1
  have X1 : Hid (Chg (0) (0) w v1) := Lib.hid (by rw [hv1]; repeat' (first | with_reducible exact Chg.refl _ _ _ | with_reducible refine Chg.alloc ?_ _ | with_reducible refine Chg.drew ?_ | with_reducible refine Chg.set ?_ (by omega) _))
  have t1 : w.heap.size ≤ v1.heap.size := X1.out.size
  have Ev1 : Hid (Ex w v1) := Lib.hid ((Ex.refl w).chg X1.out (by omega))
  have KX : Hid (Blk v1 (w.heap.size) 35 [.slice A t.lines.length c, .int .i64 t.hand]) := Lib.hid (by rw [hv1]; repeat' (first | with_reducible exact Blk.new_at _ _ _ (by simp) | with_reducible refine Blk.alloc ?_ _ | with_reducible refine Blk.drew ?_ | with_reducible refine Blk.far ?_ (by simp; omega) _))
  have lX : w.heap.size < v1.heap.size := KX.out.lt
  have KQ0 : Hid (Blk v1 (w.heap.size + 1) 57 [.bool x.valid, .int .i64 x.tag, .int .i64 x.page, .int .i64 x.frame, .int .i64 x.rights, .bool x.wired]) := Lib.hid (by rw [hv1]; repeat' (first | with_reducible exact Blk.new_at _ _ _ (by simp) | with_reducible refine Blk.alloc ?_ _ | with_reducible refine Blk.drew ?_ | with_reducible refine Blk.far ?_ (by simp; omega) _))
  have lQ0 : w.heap.size + 1 < v1.heap.size := KQ0.out.lt
  have DX := Lib.hid (HX.out.ex Ev1.out)
  clear hv1
  refine (szCache_c t _ _ _ _ (by omega) (by omega) HXL.out).mono ?_; rintro r w1 ⟨rfl, hb1⟩
  have Y1 : Hid (Chg 0 0 v1 w1) := Lib.hid (Chg.of_ex hb1)
  have s1 : v1.heap.size ≤ w1.heap.size := Y1.out.size
  have Ew1 : Hid (Ex w w1) := Lib.hid (Ev1.out.chg Y1.out (by omega))
  clear hb1
  replace KX : Hid (Blk w1 (w.heap.size) 35 [.slice A t.lines.length c, .int .i64 t.hand]) := Lib.hid (KX.out.chg Y1.out (by omega))
  replace KQ0 : Hid (Blk w1 (w.heap.size + 1) 57 [.bool x.valid, .int .i64 x.tag, .int .i64 x.page, .int .i64 x.frame, .int .i64 x.rights, .bool x.wired]) := Lib.hid (KQ0.out.chg Y1.out (by omega))
  replace DX := Lib.hid (HX.out.ex Ew1.out)
  obtain ⟨qX0, qX1⟩ := KX.out.c2
  have jX := KX.out.lt
  obtain ⟨qQ00, qQ01, qQ02, qQ03, qQ04, qQ05⟩ := KQ0.out.c6
  have jQ0 := KQ0.out.lt
  rw [szI_pos (by omega)]
  have FK3 : Hid (∀ w', Ex w1 w' → (w'.cell? ⟨w.heap.size, 0, none⟩ = some (.slice A t.lines.length c) ∧ w'.cell? ⟨w.heap.size, 1, none⟩ = some (.int .i64 t.hand) ∧ w'.cell? ⟨w.heap.size + 1, 0, none⟩ = some (.bool x.valid) ∧ w'.cell? ⟨w.heap.size + 1, 1, none⟩ = some (.int .i64 x.tag) ∧ w'.cell? ⟨w.heap.size + 1, 2, none⟩ = some (.int .i64 x.page) ∧ w'.cell? ⟨w.heap.size + 1, 3, none⟩ = some (.int .i64 x.frame) ∧ w'.cell? ⟨w.heap.size + 1, 4, none⟩ = some (.int .i64 x.rights) ∧ w'.cell? ⟨w.heap.size + 1, 5, none⟩ = some (.bool x.wired))) := Lib.hid (fun w' h => by
    obtain ⟨q0, q1⟩ := (KX.out.ex h).c2
    obtain ⟨r0, r1, r2, r3, r4, r5⟩ := (KQ0.out.ex h).c6
    exact ⟨q0, q1, r0, r1, r2, r3, r4, r5⟩)
  have CT3 : Hid (∀ w', Rd w' A t.lines → Calls Try.prog 22 #[.agg #[.slice A t.lines.length c, .int .i64 t.hand]] w' fun r w'' => ∃ A' c', r = .returned (.agg #[.slice A' t.lines.length c', .int .i64 t.hand]) ∧ Fr 31 w'' w'.heap.size A' c' t.lines ∧ Ex w' w'') := Lib.hid (fun w' h => toCache_c t A c w' h hn)
  go_upto_region 5 with fail
  go_cut [6, 7, 8] (fun sa sb sc wx => FillCut u o0 o1 w1 sa sb sc wx)
  case first =>
    go_region_held3 (fun w' => (w'.cell? ⟨w.heap.size, 0, none⟩ = some (.slice A t.lines.length c) ∧ w'.cell? ⟨w.heap.size, 1, none⟩ = some (.int .i64 t.hand) ∧ w'.cell? ⟨w.heap.size + 1, 0, none⟩ = some (.bool x.valid) ∧ w'.cell? ⟨w.heap.size + 1, 1, none⟩ = some (.int .i64 x.tag) ∧ w'.cell? ⟨w.heap.size + 1, 2, none⟩ = some (.int .i64 x.page) ∧ w'.cell? ⟨w.heap.size + 1, 3, none⟩ = some (.int .i64 x.frame) ∧ w'.cell? ⟨w.heap.size + 1, 4, none⟩ = some (.int .i64 x.rights) ∧ w'.cell? ⟨w.heap.size + 1, 5, none⟩ = some (.bool x.wired))) (first | with_reducible exact FK3.out _ (Ex.refl _) | with_reducible exact FK3.out _ (Ex.refl _).drew | with_reducible exact FK3.out _ ((Ex.refl _).alloc _).drew | with_reducible exact FK3.out _ hE | with_reducible exact FK3.out _ (hE.alloc _) | with_reducible exact FK3.out _ hE2 | with_reducible exact FK3.out _ (hE2.alloc _) | with_reducible exact FK3.out _ hE3 | with_reducible exact FK3.out _ (hE3.alloc _) | with_reducible exact FK3.out _ ((hE3.put (Nat.le_refl _) _).put (Nat.le_refl _) _) | with_reducible exact FK3.out _ ((hE3.put hE.size _).put hE.size _) | with_reducible exact FK3.out _ ((hE3.put hE2.size _).put hE2.size _) | go_keep) (first | (go_at_call 22; (with_reducible refine (CT3.out _ ?_).mono ?_); (first | with_reducible exact Rd.drew DX.out | with_reducible exact (DX.out.alloc _).drew); rintro r wa ⟨Aa, ca, rfl, hfa, hba⟩; have hle := hfa.le; have hca := hfa.cap; (first | (have hE : Ex w1 wa := (Ex.refl w1).drew.trans hba) | (have hE : Ex w1 wa := ((Ex.refl w1).alloc _).drew.trans hba; have hz : Blk wa w1.heap.size 25 [.slice none 0 0, .int .i64 0] := Blk.ex (Blk.drew (Blk.new w1 25 [.slice none 0 0, .int .i64 0])) hba))) | (go_at_call 40; (with_reducible refine (toLine_c x _).mono ?_); rintro r wl ⟨rfl, hbl⟩; (first | (have hE2 : Ex w1 wl := hE.trans hbl; have hr2 := (hfa.ex hbl).rd; (first | (have hz2 := Blk.ex hz hbl) | skip)) | (have hE2 : Ex w1 wl := (hE.alloc _).trans hbl; have hr2 := ((hfa.alloc _).ex hbl).rd; have hz2 : Blk wl wa.heap.size 25 [.slice none 0 0, .int .i64 0] := Blk.ex (Blk.new wa 25 [.slice none 0 0, .int .i64 0]) hbl))) | (go_at_call 35; (with_reducible refine (C1.out Aa ca _ ?_ hn hle hca).mono ?_); (first | with_reducible exact hr2 | with_reducible exact hr2.alloc _); rintro r wb ⟨A', c', rfl, hfb, hbb⟩; (first | (have hE3 : Ex w1 wb := hE2.trans hbb; (first | (have hz3 := Blk.ex hz2 hbb; obtain ⟨hz0, hz1⟩ := hz3.c2; have hzf := hz3.frozen; have hzl := hz3.lt) | skip)) | (have hE3 : Ex w1 wb := (hE2.alloc _).trans hbb; have hz3 : Blk wb wl.heap.size 25 [.slice none 0 0, .int .i64 0] := Blk.ex (Blk.new wl 25 [.slice none 0 0, .int .i64 0]) hbb; obtain ⟨hz0, hz1⟩ := hz3.c2; have hzf := hz3.frozen; have hzl := hz3.lt))))
    all_goals (go_wp2_with fail; go_meet)
    · exact ⟨wb.heap.size, w1.heap.size, wb.heap.size, A', c', rfl, rfl, rfl, Blk.new _ _ _, (hfb.alloc _).mono (by have := hE2.size; simp; omega), fun b hb => (hfb.row b hb).2, (Chg.of_ex hE3).alloc _, hE3.size, Nat.le_refl _, by simp, Or.inr (Nat.le_refl _)⟩
    · exact ⟨wl.heap.size, wl.heap.size + 1, _, A', c', rfl, rfl, rfl, Blk.put2 hz3, Fr.mono (Fr.set_below (Fr.set_below hfb (by simp) _) (by simp) _) (by first | exact hz2.lt | (simp; done) | (simp; omega)), fun b hb => (by have := (hfb.row b hb).2; simpa using this), Chg.of_ex ((hE3.put hE2.size _).put hE2.size _), hE2.size, Nat.le_succ_of_le hE2.size, Nat.le_refl _, Or.inl (Nat.lt_succ_self _)⟩
    · exact ⟨wa.heap.size, wa.heap.size + 1, _, A', c', rfl, rfl, rfl, Blk.put2 hz3, Fr.mono (Fr.set_below (Fr.set_below hfb hz2.lt _) hz2.lt _) (by first | exact hz2.lt | (simp; done) | (simp; omega)), fun b hb => (by have := (hfb.row b hb).2; simpa using this), Chg.of_ex ((hE3.put hE.size _).put hE.size _), hE.size, Nat.le_succ_of_le hE.size, Nat.le_refl _, Or.inl (Nat.lt_succ_self _)⟩
    · exact ⟨w1.heap.size, w1.heap.size + 1, _, A', c', rfl, rfl, rfl, Blk.put2 hz3, Fr.mono (Fr.set_below (Fr.set_below hfb hz2.lt _) hz2.lt _) (by first | exact hz2.lt | (simp; done) | (simp; omega)), fun b hb => (by have := (hfb.row b hb).2; simpa using this), Chg.of_ex ((hE3.put (Nat.le_refl _) _).put (Nat.le_refl _) _), (Nat.le_refl _), Nat.le_succ_of_le (Nat.le_refl _), Nat.le_refl _, Or.inl (Nat.lt_succ_self _)⟩
  obtain ⟨gW, lo3, hi3, A3, c3, rfl, rfl, rfl, hk3, hf3, hr3, hx3, hg3, hlo3, hhi3, hlh3⟩ := hcut
  have KW := Lib.hid hk3
  have HF3 := Lib.hid hf3
  have WHF3 : Hid (∀ b, rowOf A3 c3 = some b → lo3 ≤ b ∧ b < hi3) := Lib.hid (fun b hb => ⟨(hf3.row b hb).1, hr3 b hb⟩)
  have Y3 := Lib.hid hx3
  clear hk3 hf3 hx3 hr3 FK3
  obtain ⟨w3, hw3⟩ : ∃ w3 : World, w3 = wc := ⟨_, rfl⟩
  rw [← hw3] at KW HF3 Y3 hhi3 ⊢
  clear hw3
  have lnW : gW < w3.heap.size := KW.out.lt
  have s3 : w1.heap.size ≤ w3.heap.size := Y3.out.size
  have Ew3 : Hid (Ex w w3) := Lib.hid (Ew1.out.chg Y3.out (by omega))
  clear qX0 qX1 jX
  clear qQ00 qQ01 qQ02 qQ03 qQ04 qQ05 jQ0
  replace KX : Hid (Blk w3 (w.heap.size) 35 [.slice A t.lines.length c, .int .i64 t.hand]) := Lib.hid (KX.out.chg Y3.out (by omega))
  replace KQ0 : Hid (Blk w3 (w.heap.size + 1) 57 [.bool x.valid, .int .i64 x.tag, .int .i64 x.page, .int .i64 x.frame, .int .i64 x.rights, .bool x.wired]) := Lib.hid (KQ0.out.chg Y3.out (by omega))
  replace DX := Lib.hid (HX.out.ex Ew3.out)
  obtain ⟨qX0, qX1⟩ := KX.out.c2
  have jX := KX.out.lt
  obtain ⟨qQ00, qQ01, qQ02, qQ03, qQ04, qQ05⟩ := KQ0.out.c6
  have jQ0 := KQ0.out.lt
  obtain ⟨qW0, qW1⟩ := KW.out.c2
  have jW := KW.out.lt
  go_wp2_with fail
  refine name_calls ?_; intro v4 hv4
  have X4 : Hid (Chg (0) (0) w3 v4) := Lib.hid (by rw [hv4]; repeat' (first | with_reducible exact Chg.refl _ _ _ | with_reducible refine Chg.alloc ?_ _ | with_reducible refine Chg.drew ?_ | with_reducible refine Chg.set ?_ (by omega) _))
  have t4 : w3.heap.size ≤ v4.heap.size := X4.out.size
  have Ev4 : Hid (Ex w v4) := Lib.hid (Ew3.out.chg X4.out (by omega))
  clear qX0 qX1 jX
  clear qQ00 qQ01 qQ02 qQ03 qQ04 qQ05 jQ0
  clear qW0 qW1 jW
  replace KX : Hid (Blk v4 (w.heap.size) 35 [.slice A t.lines.length c, .int .i64 t.hand]) := Lib.hid (KX.out.chg X4.out (by omega))
  replace KQ0 : Hid (Blk v4 (w.heap.size + 1) 57 [.bool x.valid, .int .i64 x.tag, .int .i64 x.page, .int .i64 x.frame, .int .i64 x.rights, .bool x.wired]) := Lib.hid (KQ0.out.chg X4.out (by omega))
  replace KW : Hid (Blk v4 (gW) 25 [.slice A3 u.lines.length c3, .int .i64 u.hand]) := Lib.hid (KW.out.chg X4.out (by omega))
  replace HF3 := Lib.hid (HF3.out.chg X4.out WHF3.out (by omega))
  replace DX := Lib.hid (HX.out.ex Ev4.out)
  clear hv4
  refine (toCache_c t A c _ DX.out hn).mono ?_; rintro r w4 ⟨A4, c4, rfl, hf4, hb4⟩
  have Y4 : Hid (Chg 0 0 v4 w4) := Lib.hid (Chg.of_ex hb4)
  have s4 : v4.heap.size ≤ w4.heap.size := Y4.out.size
  have Ew4 : Hid (Ex w w4) := Lib.hid (Ev4.out.chg Y4.out (by omega))
  clear hb4
  replace KX : Hid (Blk w4 (w.heap.size) 35 [.slice A t.lines.length c, .int .i64 t.hand]) := Lib.hid (KX.out.chg Y4.out (by omega))
  replace KQ0 : Hid (Blk w4 (w.heap.size + 1) 57 [.bool x.valid, .int .i64 x.tag, .int .i64 x.page, .int .i64 x.frame, .int .i64 x.rights, .bool x.wired]) := Lib.hid (KQ0.out.chg Y4.out (by omega))
  replace KW : Hid (Blk w4 (gW) 25 [.slice A3 u.lines.length c3, .int .i64 u.hand]) := Lib.hid (KW.out.chg Y4.out (by omega))
  replace HF3 := Lib.hid (HF3.out.chg Y4.out WHF3.out (by omega))
  replace DX := Lib.hid (HX.out.ex Ew4.out)
  have HF4 := Lib.hid hf4; clear hf4
  have WHF4 := Lib.hid HF4.out.row
  obtain ⟨qX0, qX1⟩ := KX.out.c2
  have jX := KX.out.lt
  obtain ⟨qQ00, qQ01, qQ02, qQ03, qQ04, qQ05⟩ := KQ0.out.c6
  have jQ0 := KQ0.out.lt
  obtain ⟨qW0, qW1⟩ := KW.out.c2
  have jW := KW.out.lt
  go_wp2_with fail
  obtain ⟨wE, hwE⟩ : ∃ wE : World, wE = w4.alloc (.cells #[.slice A4 t.lines.length c4, .int .i64 t.hand] 25) := ⟨_, rfl⟩
  obtain ⟨gZ, hgZ⟩ : ∃ gZ, gZ = w4.heap.size := ⟨_, rfl⟩
  have KZ : Hid (Blk wE gZ 25 [.slice A4 t.lines.length c4, .int .i64 t.hand]) := Lib.hid (by rw [hwE, hgZ]; exact Blk.new _ _ _)
  have YE : Hid (Chg 0 0 w4 wE) := Lib.hid (by rw [hwE]; exact (Chg.refl _ _ _).alloc _)
  have hgZ4 : w4.heap.size ≤ gZ := by omega
  have hgZE : gZ < wE.heap.size := KZ.out.lt
  rw [← hwE, ← hgZ]
  clear hwE hgZ
  have sE : w4.heap.size ≤ wE.heap.size := YE.out.size
  have EwE : Hid (Ex w wE) := Lib.hid (Ew4.out.chg YE.out (by omega))
  clear qX0 qX1 jX
  clear qQ00 qQ01 qQ02 qQ03 qQ04 qQ05 jQ0
  clear qW0 qW1 jW
  replace KX : Hid (Blk wE (w.heap.size) 35 [.slice A t.lines.length c, .int .i64 t.hand]) := Lib.hid (KX.out.chg YE.out (by omega))
  replace KQ0 : Hid (Blk wE (w.heap.size + 1) 57 [.bool x.valid, .int .i64 x.tag, .int .i64 x.page, .int .i64 x.frame, .int .i64 x.rights, .bool x.wired]) := Lib.hid (KQ0.out.chg YE.out (by omega))
  replace KW : Hid (Blk wE (gW) 25 [.slice A3 u.lines.length c3, .int .i64 u.hand]) := Lib.hid (KW.out.chg YE.out (by omega))
  replace HF3 := Lib.hid (HF3.out.chg YE.out WHF3.out (by omega))
  replace HF4 := Lib.hid (HF4.out.chg YE.out WHF4.out (by omega))
  replace DX := Lib.hid (HX.out.ex EwE.out)
  obtain ⟨qX0, qX1⟩ := KX.out.c2
  have jX := KX.out.lt
  obtain ⟨qQ00, qQ01, qQ02, qQ03, qQ04, qQ05⟩ := KQ0.out.c6
  have jQ0 := KQ0.out.lt
  obtain ⟨qW0, qW1⟩ := KW.out.c2
  have jW := KW.out.lt
  obtain ⟨qZ0, qZ1⟩ := KZ.out.c2
  have jZ := KZ.out.lt
  have FK5 : Hid (∀ w', Ex wE w' → (w'.cell? ⟨gZ, 0, none⟩ = some (.slice A4 t.lines.length c4) ∧ w'.cell? ⟨gZ, 1, none⟩ = some (.int .i64 t.hand) ∧ w'.cell? ⟨w.heap.size + 1, 0, none⟩ = some (.bool x.valid) ∧ w'.cell? ⟨w.heap.size + 1, 1, none⟩ = some (.int .i64 x.tag) ∧ w'.cell? ⟨w.heap.size + 1, 2, none⟩ = some (.int .i64 x.page) ∧ w'.cell? ⟨w.heap.size + 1, 3, none⟩ = some (.int .i64 x.frame) ∧ w'.cell? ⟨w.heap.size + 1, 4, none⟩ = some (.int .i64 x.rights) ∧ w'.cell? ⟨w.heap.size + 1, 5, none⟩ = some (.bool x.wired))) := Lib.hid (fun w' h => by
    obtain ⟨q0, q1⟩ := (KZ.out.ex h).c2
    obtain ⟨r0, r1, r2, r3, r4, r5⟩ := (KQ0.out.ex h).c6
    exact ⟨q0, q1, r0, r1, r2, r3, r4, r5⟩)
  go_upto_region 7 with fail
  go_cut [10, 11, 12] (fun sa sb sc wx => FillCut u o0 o1 wE sa sb sc wx)
  case first =>
    go_region_held3 (fun w' => (w'.cell? ⟨gZ, 0, none⟩ = some (.slice A4 t.lines.length c4) ∧ w'.cell? ⟨gZ, 1, none⟩ = some (.int .i64 t.hand) ∧ w'.cell? ⟨w.heap.size + 1, 0, none⟩ = some (.bool x.valid) ∧ w'.cell? ⟨w.heap.size + 1, 1, none⟩ = some (.int .i64 x.tag) ∧ w'.cell? ⟨w.heap.size + 1, 2, none⟩ = some (.int .i64 x.page) ∧ w'.cell? ⟨w.heap.size + 1, 3, none⟩ = some (.int .i64 x.frame) ∧ w'.cell? ⟨w.heap.size + 1, 4, none⟩ = some (.int .i64 x.rights) ∧ w'.cell? ⟨w.heap.size + 1, 5, none⟩ = some (.bool x.wired))) (first | with_reducible exact FK5.out _ (Ex.refl _) | with_reducible exact FK5.out _ (Ex.refl _).drew | with_reducible exact FK5.out _ ((Ex.refl _).alloc _).drew | with_reducible exact FK5.out _ hE2 | with_reducible exact FK5.out _ (hE2.alloc _) | with_reducible exact FK5.out _ hE3 | with_reducible exact FK5.out _ (hE3.alloc _) | with_reducible exact FK5.out _ ((hE3.put (Nat.le_refl _) _).put (Nat.le_refl _) _) | with_reducible exact FK5.out _ ((hE3.put hE2.size _).put hE2.size _) | go_keep) (first | (go_at_call 40; (with_reducible refine (toLine_c x _).mono ?_); rintro r wl ⟨rfl, hbl⟩; (first | (have hE2 : Ex wE wl := (Ex.refl wE).drew.trans hbl; have hr2 := (HF4.out.rd.ex hE2)) | (have hE2 : Ex wE wl := ((Ex.refl wE).alloc _).drew.trans hbl; have hr2 := (HF4.out.rd.ex hE2); have hz2 : Blk wl wE.heap.size 25 [.slice none 0 0, .int .i64 0] := Blk.ex (Blk.drew (Blk.new wE 25 [.slice none 0 0, .int .i64 0])) hbl))) | (go_at_call 34; (with_reducible refine (C2.out A4 c4 _ ?_ hn HF4.out.le HF4.out.cap).mono ?_); (first | with_reducible exact hr2 | with_reducible exact hr2.alloc _); rintro r wb ⟨A', c', rfl, hfb, hbb⟩; (first | (have hE3 : Ex wE wb := hE2.trans hbb; (first | (have hz3 := Blk.ex hz2 hbb; obtain ⟨hz0, hz1⟩ := hz3.c2; have hzf := hz3.frozen; have hzl := hz3.lt) | skip)) | (have hE3 : Ex wE wb := (hE2.alloc _).trans hbb; have hz3 : Blk wb wl.heap.size 25 [.slice none 0 0, .int .i64 0] := Blk.ex (Blk.new wl 25 [.slice none 0 0, .int .i64 0]) hbb; obtain ⟨hz0, hz1⟩ := hz3.c2; have hzf := hz3.frozen; have hzl := hz3.lt))))
    all_goals (go_wp2_with fail; go_meet)
    · exact ⟨wb.heap.size, wE.heap.size, wb.heap.size, A', c', rfl, rfl, rfl, Blk.new _ _ _, (hfb.alloc _).mono (by have := hE2.size; simp; omega), fun b hb => (hfb.row b hb).2, (Chg.of_ex hE3).alloc _, hE3.size, Nat.le_refl _, by simp, Or.inr (Nat.le_refl _)⟩
    · exact ⟨wl.heap.size, wl.heap.size + 1, _, A', c', rfl, rfl, rfl, Blk.put2 hz3, Fr.mono (Fr.set_below (Fr.set_below hfb (by simp) _) (by simp) _) (by first | exact hz2.lt | (simp; done) | (simp; omega)), fun b hb => (by have := (hfb.row b hb).2; simpa using this), Chg.of_ex ((hE3.put hE2.size _).put hE2.size _), hE2.size, Nat.le_succ_of_le hE2.size, Nat.le_refl _, Or.inl (Nat.lt_succ_self _)⟩
    · exact ⟨wE.heap.size, wE.heap.size + 1, _, A', c', rfl, rfl, rfl, Blk.put2 hz3, Fr.mono (Fr.set_below (Fr.set_below hfb hz2.lt _) hz2.lt _) (by first | exact hz2.lt | (simp; done) | (simp; omega)), fun b hb => (by have := (hfb.row b hb).2; simpa using this), Chg.of_ex ((hE3.put (Nat.le_refl _) _).put (Nat.le_refl _) _), (Nat.le_refl _), Nat.le_succ_of_le (Nat.le_refl _), Nat.le_refl _, Or.inl (Nat.lt_succ_self _)⟩
  obtain ⟨gG, lo5, hi5, A5, c5, rfl, rfl, rfl, hk5, hf5, hr5, hx5, hg5, hlo5, hhi5, hlh5⟩ := hcut
  have KG := Lib.hid hk5
  have HF5 := Lib.hid hf5
  have WHF5 : Hid (∀ b, rowOf A5 c5 = some b → lo5 ≤ b ∧ b < hi5) := Lib.hid (fun b hb => ⟨(hf5.row b hb).1, hr5 b hb⟩)
  have Y5 := Lib.hid hx5
  clear hk5 hf5 hx5 hr5 FK5
  obtain ⟨w5, hw5⟩ : ∃ w5 : World, w5 = wc := ⟨_, rfl⟩
  rw [← hw5] at KG HF5 Y5 hhi5 ⊢
  clear hw5
  have lnG : gG < w5.heap.size := KG.out.lt
  have s5 : wE.heap.size ≤ w5.heap.size := Y5.out.size
  have Ew5 : Hid (Ex w w5) := Lib.hid (EwE.out.chg Y5.out (by omega))
  clear qX0 qX1 jX
  clear qQ00 qQ01 qQ02 qQ03 qQ04 qQ05 jQ0
  clear qW0 qW1 jW
  clear qZ0 qZ1 jZ
  replace KX : Hid (Blk w5 (w.heap.size) 35 [.slice A t.lines.length c, .int .i64 t.hand]) := Lib.hid (KX.out.chg Y5.out (by omega))
  replace KQ0 : Hid (Blk w5 (w.heap.size + 1) 57 [.bool x.valid, .int .i64 x.tag, .int .i64 x.page, .int .i64 x.frame, .int .i64 x.rights, .bool x.wired]) := Lib.hid (KQ0.out.chg Y5.out (by omega))
  replace KW : Hid (Blk w5 (gW) 25 [.slice A3 u.lines.length c3, .int .i64 u.hand]) := Lib.hid (KW.out.chg Y5.out (by omega))
  replace KZ : Hid (Blk w5 (gZ) 25 [.slice A4 t.lines.length c4, .int .i64 t.hand]) := Lib.hid (KZ.out.chg Y5.out (by omega))
  replace HF3 := Lib.hid (HF3.out.chg Y5.out WHF3.out (by omega))
  replace HF4 := Lib.hid (HF4.out.chg Y5.out WHF4.out (by omega))
  replace DX := Lib.hid (HX.out.ex Ew5.out)
  obtain ⟨qX0, qX1⟩ := KX.out.c2
  have jX := KX.out.lt
  obtain ⟨qQ00, qQ01, qQ02, qQ03, qQ04, qQ05⟩ := KQ0.out.c6
  have jQ0 := KQ0.out.lt
  obtain ⟨qW0, qW1⟩ := KW.out.c2
  have jW := KW.out.lt
  obtain ⟨qZ0, qZ1⟩ := KZ.out.c2
  have jZ := KZ.out.lt
  obtain ⟨qG0, qG1⟩ := KG.out.c2
  have jG := KG.out.lt
  go_wp2_with fail
  refine name_calls ?_; intro v6 hv6
  have X6 : Hid (Chg (0) (0) w5 v6) := Lib.hid (by rw [hv6]; repeat' (first | with_reducible exact Chg.refl _ _ _ | with_reducible refine Chg.alloc ?_ _ | with_reducible refine Chg.drew ?_ | with_reducible refine Chg.set ?_ (by omega) _))
  have t6 : w5.heap.size ≤ v6.heap.size := X6.out.size
  have Ev6 : Hid (Ex w v6) := Lib.hid (Ew5.out.chg X6.out (by omega))
  clear qX0 qX1 jX
  clear qQ00 qQ01 qQ02 qQ03 qQ04 qQ05 jQ0
  clear qW0 qW1 jW
  clear qZ0 qZ1 jZ
  clear qG0 qG1 jG
  replace KX : Hid (Blk v6 (w.heap.size) 35 [.slice A t.lines.length c, .int .i64 t.hand]) := Lib.hid (KX.out.chg X6.out (by omega))
  replace KQ0 : Hid (Blk v6 (w.heap.size + 1) 57 [.bool x.valid, .int .i64 x.tag, .int .i64 x.page, .int .i64 x.frame, .int .i64 x.rights, .bool x.wired]) := Lib.hid (KQ0.out.chg X6.out (by omega))
  replace KW : Hid (Blk v6 (gW) 25 [.slice A3 u.lines.length c3, .int .i64 u.hand]) := Lib.hid (KW.out.chg X6.out (by omega))
  replace KZ : Hid (Blk v6 (gZ) 25 [.slice A4 t.lines.length c4, .int .i64 t.hand]) := Lib.hid (KZ.out.chg X6.out (by omega))
  replace KG : Hid (Blk v6 (gG) 25 [.slice A5 u.lines.length c5, .int .i64 u.hand]) := Lib.hid (KG.out.chg X6.out (by omega))
  replace HF3 := Lib.hid (HF3.out.chg X6.out WHF3.out (by omega))
  replace HF4 := Lib.hid (HF4.out.chg X6.out WHF4.out (by omega))
  replace HF5 := Lib.hid (HF5.out.chg X6.out WHF5.out (by omega))
  replace DX := Lib.hid (HX.out.ex Ev6.out)
  clear hv6
  refine (eqCache_self_c u _ _ _ _ _ HF5.out.rd HF3.out.rd hfew).mono ?_; rintro r w6 ⟨rfl, hb6⟩
  have Y6 : Hid (Chg 0 0 v6 w6) := Lib.hid (Chg.of_ex hb6)
  have s6 : v6.heap.size ≤ w6.heap.size := Y6.out.size
  have Ew6 : Hid (Ex w w6) := Lib.hid (Ev6.out.chg Y6.out (by omega))
  clear hb6
  replace KX : Hid (Blk w6 (w.heap.size) 35 [.slice A t.lines.length c, .int .i64 t.hand]) := Lib.hid (KX.out.chg Y6.out (by omega))
  replace KQ0 : Hid (Blk w6 (w.heap.size + 1) 57 [.bool x.valid, .int .i64 x.tag, .int .i64 x.page, .int .i64 x.frame, .int .i64 x.rights, .bool x.wired]) := Lib.hid (KQ0.out.chg Y6.out (by omega))
  replace KW : Hid (Blk w6 (gW) 25 [.slice A3 u.lines.length c3, .int .i64 u.hand]) := Lib.hid (KW.out.chg Y6.out (by omega))
  replace KZ : Hid (Blk w6 (gZ) 25 [.slice A4 t.lines.length c4, .int .i64 t.hand]) := Lib.hid (KZ.out.chg Y6.out (by omega))
  replace KG : Hid (Blk w6 (gG) 25 [.slice A5 u.lines.length c5, .int .i64 u.hand]) := Lib.hid (KG.out.chg Y6.out (by omega))
  replace HF3 := Lib.hid (HF3.out.chg Y6.out WHF3.out (by omega))
  replace HF4 := Lib.hid (HF4.out.chg Y6.out WHF4.out (by omega))
  replace HF5 := Lib.hid (HF5.out.chg Y6.out WHF5.out (by omega))
  replace DX := Lib.hid (HX.out.ex Ew6.out)
  obtain ⟨qX0, qX1⟩ := KX.out.c2
  have jX := KX.out.lt
  obtain ⟨qQ00, qQ01, qQ02, qQ03, qQ04, qQ05⟩ := KQ0.out.c6
  have jQ0 := KQ0.out.lt
  obtain ⟨qW0, qW1⟩ := KW.out.c2
  have jW := KW.out.lt
  obtain ⟨qZ0, qZ1⟩ := KZ.out.c2
  have jZ := KZ.out.lt
  obtain ⟨qG0, qG1⟩ := KG.out.c2
  have jG := KG.out.lt
  go_wp2_with fail
  go_region_held3 (fun w' => (w'.cell? ⟨gZ, 0, none⟩ = some (.slice A4 t.lines.length c4) ∧ w'.cell? ⟨gZ, 1, none⟩ = some (.int .i64 t.hand)) ∧ (w'.cell? ⟨w.heap.size, 0, none⟩ = some (.slice A t.lines.length c) ∧ w'.cell? ⟨w.heap.size, 1, none⟩ = some (.int .i64 t.hand))) (first | exact ⟨KZ.out.c2, KX.out.c2⟩ | exact ⟨(Blk.ex (Blk.drew KZ.out) hb7a).c2, (Blk.ex (Blk.drew KX.out) hb7a).c2⟩ | exact ⟨(Blk.ex (Blk.ex (Blk.drew KZ.out) hb7a) hb7).c2, (Blk.ex (Blk.ex (Blk.drew KX.out) hb7a) hb7).c2⟩) (first | (go_at_call 22; (with_reducible refine (toCache_c t A c _ ?_ hn).mono ?_); (exact Rd.drew DX.out); rintro r w7a ⟨A7, c7, rfl, hf7, hb7a⟩) | (go_at_call 24; (with_reducible refine (eqCache_self_c t _ _ _ _ _ ?_ ?_ hn).mono ?_); (exact (Rd.drew HF4.out.rd).ex hb7a); (exact hf7.rd); rintro r w7 ⟨rfl, hb7⟩))
  rename_i hHeld
  clear hHeld
  have Y7 : Hid (Chg 0 0 w6 w7) := Lib.hid (Chg.of_ex ((((Ex.refl _).drew).trans hb7a).trans hb7))
  have s7 : w6.heap.size ≤ w7.heap.size := Y7.out.size
  have Ew7 : Hid (Ex w w7) := Lib.hid (Ew6.out.chg Y7.out (by omega))
  clear hb7a hb7 hf7
  clear qX0 qX1 jX
  clear qQ00 qQ01 qQ02 qQ03 qQ04 qQ05 jQ0
  clear qW0 qW1 jW
  clear qZ0 qZ1 jZ
  clear qG0 qG1 jG
  replace KX : Hid (Blk w7 (w.heap.size) 35 [.slice A t.lines.length c, .int .i64 t.hand]) := Lib.hid (KX.out.chg Y7.out (by omega))
  replace KQ0 : Hid (Blk w7 (w.heap.size + 1) 57 [.bool x.valid, .int .i64 x.tag, .int .i64 x.page, .int .i64 x.frame, .int .i64 x.rights, .bool x.wired]) := Lib.hid (KQ0.out.chg Y7.out (by omega))
  replace KW : Hid (Blk w7 (gW) 25 [.slice A3 u.lines.length c3, .int .i64 u.hand]) := Lib.hid (KW.out.chg Y7.out (by omega))
  replace KZ : Hid (Blk w7 (gZ) 25 [.slice A4 t.lines.length c4, .int .i64 t.hand]) := Lib.hid (KZ.out.chg Y7.out (by omega))
  replace KG : Hid (Blk w7 (gG) 25 [.slice A5 u.lines.length c5, .int .i64 u.hand]) := Lib.hid (KG.out.chg Y7.out (by omega))
  replace HF3 := Lib.hid (HF3.out.chg Y7.out WHF3.out (by omega))
  replace HF4 := Lib.hid (HF4.out.chg Y7.out WHF4.out (by omega))
  replace HF5 := Lib.hid (HF5.out.chg Y7.out WHF5.out (by omega))
  replace DX := Lib.hid (HX.out.ex Ew7.out)
  obtain ⟨qX0, qX1⟩ := KX.out.c2
  have jX := KX.out.lt
  obtain ⟨qQ00, qQ01, qQ02, qQ03, qQ04, qQ05⟩ := KQ0.out.c6
  have jQ0 := KQ0.out.lt
  obtain ⟨qW0, qW1⟩ := KW.out.c2
  have jW := KW.out.lt
  obtain ⟨qZ0, qZ1⟩ := KZ.out.c2
  have jZ := KZ.out.lt
  obtain ⟨qG0, qG1⟩ := KG.out.c2
  have jG := KG.out.lt
  go_wp2_with fail
  refine name_calls ?_; intro v8 hv8
  have X8 : Hid (Chg (0) (0) w7 v8) := Lib.hid (by rw [hv8]; repeat' (first | with_reducible exact Chg.refl _ _ _ | with_reducible refine Chg.alloc ?_ _ | with_reducible refine Chg.drew ?_ | with_reducible refine Chg.set ?_ (by omega) _))
  have t8 : w7.heap.size ≤ v8.heap.size := X8.out.size
  have Ev8 : Hid (Ex w v8) := Lib.hid (Ew7.out.chg X8.out (by omega))
  clear qX0 qX1 jX
  clear qQ00 qQ01 qQ02 qQ03 qQ04 qQ05 jQ0
  clear qW0 qW1 jW
  clear qZ0 qZ1 jZ
  clear qG0 qG1 jG
  replace KX : Hid (Blk v8 (w.heap.size) 35 [.slice A t.lines.length c, .int .i64 t.hand]) := Lib.hid (KX.out.chg X8.out (by omega))
  replace KQ0 : Hid (Blk v8 (w.heap.size + 1) 57 [.bool x.valid, .int .i64 x.tag, .int .i64 x.page, .int .i64 x.frame, .int .i64 x.rights, .bool x.wired]) := Lib.hid (KQ0.out.chg X8.out (by omega))
  replace KW : Hid (Blk v8 (gW) 25 [.slice A3 u.lines.length c3, .int .i64 u.hand]) := Lib.hid (KW.out.chg X8.out (by omega))
  replace KZ : Hid (Blk v8 (gZ) 25 [.slice A4 t.lines.length c4, .int .i64 t.hand]) := Lib.hid (KZ.out.chg X8.out (by omega))
  replace KG : Hid (Blk v8 (gG) 25 [.slice A5 u.lines.length c5, .int .i64 u.hand]) := Lib.hid (KG.out.chg X8.out (by omega))
  replace HF3 := Lib.hid (HF3.out.chg X8.out WHF3.out (by omega))
  replace HF4 := Lib.hid (HF4.out.chg X8.out WHF4.out (by omega))
  replace HF5 := Lib.hid (HF5.out.chg X8.out WHF5.out (by omega))
  replace DX := Lib.hid (HX.out.ex Ev8.out)
  clear hv8
  refine (markCache_c t _ _ _ _ _ HF4.out hn (by omega) (by omega)).mono ?_; rintro r w8 ⟨rfl, hf8, hb8⟩
  have Y8 : Hid (Chg (v4.heap.size) (w4.heap.size) v8 w8) := Lib.hid (Chg.of_grown hb8 WHF4.out)
  have s8 : v8.heap.size ≤ w8.heap.size := Y8.out.size
  have Ew8 : Hid (Ex w w8) := Lib.hid (Ev8.out.chg Y8.out (by omega))
  clear hb8
  replace KX : Hid (Blk w8 (w.heap.size) 35 [.slice A t.lines.length c, .int .i64 t.hand]) := Lib.hid (KX.out.chg Y8.out (by omega))
  replace KQ0 : Hid (Blk w8 (w.heap.size + 1) 57 [.bool x.valid, .int .i64 x.tag, .int .i64 x.page, .int .i64 x.frame, .int .i64 x.rights, .bool x.wired]) := Lib.hid (KQ0.out.chg Y8.out (by omega))
  replace KW : Hid (Blk w8 (gW) 25 [.slice A3 u.lines.length c3, .int .i64 u.hand]) := Lib.hid (KW.out.chg Y8.out (by omega))
  replace KZ : Hid (Blk w8 (gZ) 25 [.slice A4 t.lines.length c4, .int .i64 t.hand]) := Lib.hid (KZ.out.chg Y8.out (by omega))
  replace KG : Hid (Blk w8 (gG) 25 [.slice A5 u.lines.length c5, .int .i64 u.hand]) := Lib.hid (KG.out.chg Y8.out (by omega))
  replace HF3 := Lib.hid (HF3.out.chg Y8.out WHF3.out (by omega))
  replace HF5 := Lib.hid (HF5.out.chg Y8.out WHF5.out (by omega))
  replace DX := Lib.hid (HX.out.ex Ew8.out)
  have HF8 := Lib.hid hf8; clear hf8
  have WHF8 := WHF4
  clear HF4 WHF4
  obtain ⟨qX0, qX1⟩ := KX.out.c2
  have jX := KX.out.lt
  obtain ⟨qQ00, qQ01, qQ02, qQ03, qQ04, qQ05⟩ := KQ0.out.c6
  have jQ0 := KQ0.out.lt
  obtain ⟨qW0, qW1⟩ := KW.out.c2
  have jW := KW.out.lt
  obtain ⟨qZ0, qZ1⟩ := KZ.out.c2
  have jZ := KZ.out.lt
  obtain ⟨qG0, qG1⟩ := KG.out.c2
  have jG := KG.out.lt
  go_wp2_with fail
  refine name_calls ?_; intro v9 hv9
  have X9 : Hid (Chg (0) (0) w8 v9) := Lib.hid (by rw [hv9]; repeat' (first | with_reducible exact Chg.refl _ _ _ | with_reducible refine Chg.alloc ?_ _ | with_reducible refine Chg.drew ?_ | with_reducible refine Chg.set ?_ (by omega) _))
  have t9 : w8.heap.size ≤ v9.heap.size := X9.out.size
  have Ev9 : Hid (Ex w v9) := Lib.hid (Ew8.out.chg X9.out (by omega))
  clear qX0 qX1 jX
  clear qQ00 qQ01 qQ02 qQ03 qQ04 qQ05 jQ0
  clear qW0 qW1 jW
  clear qZ0 qZ1 jZ
  clear qG0 qG1 jG
  replace KX : Hid (Blk v9 (w.heap.size) 35 [.slice A t.lines.length c, .int .i64 t.hand]) := Lib.hid (KX.out.chg X9.out (by omega))
  replace KQ0 : Hid (Blk v9 (w.heap.size + 1) 57 [.bool x.valid, .int .i64 x.tag, .int .i64 x.page, .int .i64 x.frame, .int .i64 x.rights, .bool x.wired]) := Lib.hid (KQ0.out.chg X9.out (by omega))
  replace KW : Hid (Blk v9 (gW) 25 [.slice A3 u.lines.length c3, .int .i64 u.hand]) := Lib.hid (KW.out.chg X9.out (by omega))
  replace KZ : Hid (Blk v9 (gZ) 25 [.slice A4 t.lines.length c4, .int .i64 t.hand]) := Lib.hid (KZ.out.chg X9.out (by omega))
  replace KG : Hid (Blk v9 (gG) 25 [.slice A5 u.lines.length c5, .int .i64 u.hand]) := Lib.hid (KG.out.chg X9.out (by omega))
  replace HF3 := Lib.hid (HF3.out.chg X9.out WHF3.out (by omega))
  replace HF5 := Lib.hid (HF5.out.chg X9.out WHF5.out (by omega))
  replace HF8 := Lib.hid (HF8.out.chg X9.out WHF8.out (by omega))
  replace DX := Lib.hid (HX.out.ex Ev9.out)
  clear hv9
  refine (eqCache_self_c u _ _ _ _ _ HF5.out.rd HF3.out.rd hfew).mono ?_; rintro r w9 ⟨rfl, hb9⟩
  have Y9 : Hid (Chg 0 0 v9 w9) := Lib.hid (Chg.of_ex hb9)
  have s9 : v9.heap.size ≤ w9.heap.size := Y9.out.size
  have Ew9 : Hid (Ex w w9) := Lib.hid (Ev9.out.chg Y9.out (by omega))
  clear hb9
  replace KX : Hid (Blk w9 (w.heap.size) 35 [.slice A t.lines.length c, .int .i64 t.hand]) := Lib.hid (KX.out.chg Y9.out (by omega))
  replace KQ0 : Hid (Blk w9 (w.heap.size + 1) 57 [.bool x.valid, .int .i64 x.tag, .int .i64 x.page, .int .i64 x.frame, .int .i64 x.rights, .bool x.wired]) := Lib.hid (KQ0.out.chg Y9.out (by omega))
  replace KW : Hid (Blk w9 (gW) 25 [.slice A3 u.lines.length c3, .int .i64 u.hand]) := Lib.hid (KW.out.chg Y9.out (by omega))
  replace KZ : Hid (Blk w9 (gZ) 25 [.slice A4 t.lines.length c4, .int .i64 t.hand]) := Lib.hid (KZ.out.chg Y9.out (by omega))
  replace KG : Hid (Blk w9 (gG) 25 [.slice A5 u.lines.length c5, .int .i64 u.hand]) := Lib.hid (KG.out.chg Y9.out (by omega))
  replace HF3 := Lib.hid (HF3.out.chg Y9.out WHF3.out (by omega))
  replace HF5 := Lib.hid (HF5.out.chg Y9.out WHF5.out (by omega))
  replace HF8 := Lib.hid (HF8.out.chg Y9.out WHF8.out (by omega))
  replace DX := Lib.hid (HX.out.ex Ew9.out)
  obtain ⟨qX0, qX1⟩ := KX.out.c2
  have jX := KX.out.lt
  obtain ⟨qQ00, qQ01, qQ02, qQ03, qQ04, qQ05⟩ := KQ0.out.c6
  have jQ0 := KQ0.out.lt
  obtain ⟨qW0, qW1⟩ := KW.out.c2
  have jW := KW.out.lt
  obtain ⟨qZ0, qZ1⟩ := KZ.out.c2
  have jZ := KZ.out.lt
  obtain ⟨qG0, qG1⟩ := KG.out.c2
  have jG := KG.out.lt
  clear qZ0 qZ1 jZ
  clear KZ
  clear HF8 WHF8
  go_wp2_with fail
  refine name_calls ?_; intro v10 hv10
  have X10 : Hid (Chg (0) (0) w9 v10) := Lib.hid (by rw [hv10]; repeat' (first | with_reducible exact Chg.refl _ _ _ | with_reducible refine Chg.alloc ?_ _ | with_reducible refine Chg.drew ?_ | with_reducible refine Chg.set ?_ (by omega) _))
  have t10 : w9.heap.size ≤ v10.heap.size := X10.out.size
  have Ev10 : Hid (Ex w v10) := Lib.hid (Ew9.out.chg X10.out (by omega))
  clear qX0 qX1 jX
  clear qQ00 qQ01 qQ02 qQ03 qQ04 qQ05 jQ0
  clear qW0 qW1 jW
  clear qG0 qG1 jG
  replace KX : Hid (Blk v10 (w.heap.size) 35 [.slice A t.lines.length c, .int .i64 t.hand]) := Lib.hid (KX.out.chg X10.out (by omega))
  replace KQ0 : Hid (Blk v10 (w.heap.size + 1) 57 [.bool x.valid, .int .i64 x.tag, .int .i64 x.page, .int .i64 x.frame, .int .i64 x.rights, .bool x.wired]) := Lib.hid (KQ0.out.chg X10.out (by omega))
  replace KW : Hid (Blk v10 (gW) 25 [.slice A3 u.lines.length c3, .int .i64 u.hand]) := Lib.hid (KW.out.chg X10.out (by omega))
  replace KG : Hid (Blk v10 (gG) 25 [.slice A5 u.lines.length c5, .int .i64 u.hand]) := Lib.hid (KG.out.chg X10.out (by omega))
  replace HF3 := Lib.hid (HF3.out.chg X10.out WHF3.out (by omega))
  replace HF5 := Lib.hid (HF5.out.chg X10.out WHF5.out (by omega))
  replace DX := Lib.hid (HX.out.ex Ev10.out)
  clear hv10
  refine (markCache_c u _ _ _ _ _ HF5.out hfew (by omega) (by omega)).mono ?_; rintro r w10 ⟨rfl, hf10, hb10⟩
  have Y10 : Hid (Chg (lo5) (hi5) v10 w10) := Lib.hid (Chg.of_grown hb10 WHF5.out)
  have s10 : v10.heap.size ≤ w10.heap.size := Y10.out.size
  have Ew10 : Hid (Ex w w10) := Lib.hid (Ev10.out.chg Y10.out (by omega))
  clear hb10
  replace KX : Hid (Blk w10 (w.heap.size) 35 [.slice A t.lines.length c, .int .i64 t.hand]) := Lib.hid (KX.out.chg Y10.out (by omega))
  replace KQ0 : Hid (Blk w10 (w.heap.size + 1) 57 [.bool x.valid, .int .i64 x.tag, .int .i64 x.page, .int .i64 x.frame, .int .i64 x.rights, .bool x.wired]) := Lib.hid (KQ0.out.chg Y10.out (by omega))
  replace KW : Hid (Blk w10 (gW) 25 [.slice A3 u.lines.length c3, .int .i64 u.hand]) := Lib.hid (KW.out.chg Y10.out (by omega))
  replace KG : Hid (Blk w10 (gG) 25 [.slice A5 u.lines.length c5, .int .i64 u.hand]) := Lib.hid (KG.out.chg Y10.out (by omega))
  replace HF3 := Lib.hid (HF3.out.chg Y10.out WHF3.out (by omega))
  replace DX := Lib.hid (HX.out.ex Ew10.out)
  have HF10 := Lib.hid hf10; clear hf10
  have WHF10 := WHF5
  clear HF5 WHF5
  obtain ⟨qX0, qX1⟩ := KX.out.c2
  have jX := KX.out.lt
  obtain ⟨qQ00, qQ01, qQ02, qQ03, qQ04, qQ05⟩ := KQ0.out.c6
  have jQ0 := KQ0.out.lt
  obtain ⟨qW0, qW1⟩ := KW.out.c2
  have jW := KW.out.lt
  obtain ⟨qG0, qG1⟩ := KG.out.c2
  have jG := KG.out.lt
  go_wp2_with fail
  refine name_calls ?_; intro v11 hv11
  have X11 : Hid (Chg (0) (0) w10 v11) := Lib.hid (by rw [hv11]; repeat' (first | with_reducible exact Chg.refl _ _ _ | with_reducible refine Chg.alloc ?_ _ | with_reducible refine Chg.drew ?_ | with_reducible refine Chg.set ?_ (by omega) _))
  have t11 : w10.heap.size ≤ v11.heap.size := X11.out.size
  have Ev11 : Hid (Ex w v11) := Lib.hid (Ew10.out.chg X11.out (by omega))
  clear qX0 qX1 jX
  clear qQ00 qQ01 qQ02 qQ03 qQ04 qQ05 jQ0
  clear qW0 qW1 jW
  clear qG0 qG1 jG
  replace KX : Hid (Blk v11 (w.heap.size) 35 [.slice A t.lines.length c, .int .i64 t.hand]) := Lib.hid (KX.out.chg X11.out (by omega))
  replace KQ0 : Hid (Blk v11 (w.heap.size + 1) 57 [.bool x.valid, .int .i64 x.tag, .int .i64 x.page, .int .i64 x.frame, .int .i64 x.rights, .bool x.wired]) := Lib.hid (KQ0.out.chg X11.out (by omega))
  replace KW : Hid (Blk v11 (gW) 25 [.slice A3 u.lines.length c3, .int .i64 u.hand]) := Lib.hid (KW.out.chg X11.out (by omega))
  replace KG : Hid (Blk v11 (gG) 25 [.slice A5 u.lines.length c5, .int .i64 u.hand]) := Lib.hid (KG.out.chg X11.out (by omega))
  replace HF3 := Lib.hid (HF3.out.chg X11.out WHF3.out (by omega))
  replace HF10 := Lib.hid (HF10.out.chg X11.out WHF10.out (by omega))
  replace DX := Lib.hid (HX.out.ex Ev11.out)
  clear hv11
  refine (heldCache_c _ _ _ _ _ _ HF10.out.rd hfew (by omega) (by omega)).mono ?_; rintro r w11 ⟨rfl, hb11⟩
  have Y11 : Hid (Chg 0 0 v11 w11) := Lib.hid (Chg.of_ex hb11)
  have s11 : v11.heap.size ≤ w11.heap.size := Y11.out.size
  have Ew11 : Hid (Ex w w11) := Lib.hid (Ev11.out.chg Y11.out (by omega))
  clear hb11
  replace KX : Hid (Blk w11 (w.heap.size) 35 [.slice A t.lines.length c, .int .i64 t.hand]) := Lib.hid (KX.out.chg Y11.out (by omega))
  replace KQ0 : Hid (Blk w11 (w.heap.size + 1) 57 [.bool x.valid, .int .i64 x.tag, .int .i64 x.page, .int .i64 x.frame, .int .i64 x.rights, .bool x.wired]) := Lib.hid (KQ0.out.chg Y11.out (by omega))
  replace KW : Hid (Blk w11 (gW) 25 [.slice A3 u.lines.length c3, .int .i64 u.hand]) := Lib.hid (KW.out.chg Y11.out (by omega))
  replace KG : Hid (Blk w11 (gG) 25 [.slice A5 u.lines.length c5, .int .i64 u.hand]) := Lib.hid (KG.out.chg Y11.out (by omega))
  replace HF3 := Lib.hid (HF3.out.chg Y11.out WHF3.out (by omega))
  replace HF10 := Lib.hid (HF10.out.chg Y11.out WHF10.out (by omega))
  replace DX := Lib.hid (HX.out.ex Ew11.out)
  obtain ⟨qX0, qX1⟩ := KX.out.c2
  have jX := KX.out.lt
  obtain ⟨qQ00, qQ01, qQ02, qQ03, qQ04, qQ05⟩ := KQ0.out.c6
  have jQ0 := KQ0.out.lt
  obtain ⟨qW0, qW1⟩ := KW.out.c2
  have jW := KW.out.lt
  obtain ⟨qG0, qG1⟩ := KG.out.c2
  have jG := KG.out.lt
  have FK13 : Hid (∀ w', Ex w11 w' → (w'.cell? ⟨w.heap.size, 0, none⟩ = some (.slice A t.lines.length c) ∧ w'.cell? ⟨w.heap.size, 1, none⟩ = some (.int .i64 t.hand) ∧ w'.cell? ⟨w.heap.size + 1, 0, none⟩ = some (.bool x.valid) ∧ w'.cell? ⟨w.heap.size + 1, 1, none⟩ = some (.int .i64 x.tag) ∧ w'.cell? ⟨w.heap.size + 1, 2, none⟩ = some (.int .i64 x.page) ∧ w'.cell? ⟨w.heap.size + 1, 3, none⟩ = some (.int .i64 x.frame) ∧ w'.cell? ⟨w.heap.size + 1, 4, none⟩ = some (.int .i64 x.rights) ∧ w'.cell? ⟨w.heap.size + 1, 5, none⟩ = some (.bool x.wired))) := Lib.hid (fun w' h => by
    obtain ⟨q0, q1⟩ := (KX.out.ex h).c2
    obtain ⟨r0, r1, r2, r3, r4, r5⟩ := (KQ0.out.ex h).c6
    exact ⟨q0, q1, r0, r1, r2, r3, r4, r5⟩)
  have CT13 : Hid (∀ w', Rd w' A t.lines → Calls Try.prog 22 #[.agg #[.slice A t.lines.length c, .int .i64 t.hand]] w' fun r w'' => ∃ A' c', r = .returned (.agg #[.slice A' t.lines.length c', .int .i64 t.hand]) ∧ Fr 31 w'' w'.heap.size A' c' t.lines ∧ Ex w' w'') := Lib.hid (fun w' h => toCache_c t A c w' h hn)
  go_upto_region 24 with fail
  go_cut [16, 17, 18] (fun sa sb sc wx => FillCut u o0 o1 w11 sa sb sc wx)
  case first =>
    go_region_held3 (fun w' => (w'.cell? ⟨w.heap.size, 0, none⟩ = some (.slice A t.lines.length c) ∧ w'.cell? ⟨w.heap.size, 1, none⟩ = some (.int .i64 t.hand) ∧ w'.cell? ⟨w.heap.size + 1, 0, none⟩ = some (.bool x.valid) ∧ w'.cell? ⟨w.heap.size + 1, 1, none⟩ = some (.int .i64 x.tag) ∧ w'.cell? ⟨w.heap.size + 1, 2, none⟩ = some (.int .i64 x.page) ∧ w'.cell? ⟨w.heap.size + 1, 3, none⟩ = some (.int .i64 x.frame) ∧ w'.cell? ⟨w.heap.size + 1, 4, none⟩ = some (.int .i64 x.rights) ∧ w'.cell? ⟨w.heap.size + 1, 5, none⟩ = some (.bool x.wired))) (first | with_reducible exact FK13.out _ (Ex.refl _) | with_reducible exact FK13.out _ (Ex.refl _).drew | with_reducible exact FK13.out _ ((Ex.refl _).alloc _).drew | with_reducible exact FK13.out _ hE | with_reducible exact FK13.out _ (hE.alloc _) | with_reducible exact FK13.out _ hE2 | with_reducible exact FK13.out _ (hE2.alloc _) | with_reducible exact FK13.out _ hE3 | with_reducible exact FK13.out _ (hE3.alloc _) | with_reducible exact FK13.out _ ((hE3.put (Nat.le_refl _) _).put (Nat.le_refl _) _) | with_reducible exact FK13.out _ ((hE3.put hE.size _).put hE.size _) | with_reducible exact FK13.out _ ((hE3.put hE2.size _).put hE2.size _) | go_keep) (first | (go_at_call 22; (with_reducible refine (CT13.out _ ?_).mono ?_); (first | with_reducible exact Rd.drew DX.out | with_reducible exact (DX.out.alloc _).drew); rintro r wa ⟨Aa, ca, rfl, hfa, hba⟩; have hle := hfa.le; have hca := hfa.cap; (first | (have hE : Ex w11 wa := (Ex.refl w11).drew.trans hba) | (have hE : Ex w11 wa := ((Ex.refl w11).alloc _).drew.trans hba; have hz : Blk wa w11.heap.size 25 [.slice none 0 0, .int .i64 0] := Blk.ex (Blk.drew (Blk.new w11 25 [.slice none 0 0, .int .i64 0])) hba))) | (go_at_call 40; (with_reducible refine (toLine_c x _).mono ?_); rintro r wl ⟨rfl, hbl⟩; (first | (have hE2 : Ex w11 wl := hE.trans hbl; have hr2 := (hfa.ex hbl).rd; (first | (have hz2 := Blk.ex hz hbl) | skip)) | (have hE2 : Ex w11 wl := (hE.alloc _).trans hbl; have hr2 := ((hfa.alloc _).ex hbl).rd; have hz2 : Blk wl wa.heap.size 25 [.slice none 0 0, .int .i64 0] := Blk.ex (Blk.new wa 25 [.slice none 0 0, .int .i64 0]) hbl))) | (go_at_call 34; (with_reducible refine (C2.out Aa ca _ ?_ hn hle hca).mono ?_); (first | with_reducible exact hr2 | with_reducible exact hr2.alloc _); rintro r wb ⟨A', c', rfl, hfb, hbb⟩; (first | (have hE3 : Ex w11 wb := hE2.trans hbb; (first | (have hz3 := Blk.ex hz2 hbb; obtain ⟨hz0, hz1⟩ := hz3.c2; have hzf := hz3.frozen; have hzl := hz3.lt) | skip)) | (have hE3 : Ex w11 wb := (hE2.alloc _).trans hbb; have hz3 : Blk wb wl.heap.size 25 [.slice none 0 0, .int .i64 0] := Blk.ex (Blk.new wl 25 [.slice none 0 0, .int .i64 0]) hbb; obtain ⟨hz0, hz1⟩ := hz3.c2; have hzf := hz3.frozen; have hzl := hz3.lt))))
    all_goals (go_wp2_with fail; go_meet)
    · exact ⟨wb.heap.size, w11.heap.size, wb.heap.size, A', c', rfl, rfl, rfl, Blk.new _ _ _, (hfb.alloc _).mono (by have := hE2.size; simp; omega), fun b hb => (hfb.row b hb).2, (Chg.of_ex hE3).alloc _, hE3.size, Nat.le_refl _, by simp, Or.inr (Nat.le_refl _)⟩
    · exact ⟨wl.heap.size, wl.heap.size + 1, _, A', c', rfl, rfl, rfl, Blk.put2 hz3, Fr.mono (Fr.set_below (Fr.set_below hfb (by simp) _) (by simp) _) (by first | exact hz2.lt | (simp; done) | (simp; omega)), fun b hb => (by have := (hfb.row b hb).2; simpa using this), Chg.of_ex ((hE3.put hE2.size _).put hE2.size _), hE2.size, Nat.le_succ_of_le hE2.size, Nat.le_refl _, Or.inl (Nat.lt_succ_self _)⟩
    · exact ⟨wa.heap.size, wa.heap.size + 1, _, A', c', rfl, rfl, rfl, Blk.put2 hz3, Fr.mono (Fr.set_below (Fr.set_below hfb hz2.lt _) hz2.lt _) (by first | exact hz2.lt | (simp; done) | (simp; omega)), fun b hb => (by have := (hfb.row b hb).2; simpa using this), Chg.of_ex ((hE3.put hE.size _).put hE.size _), hE.size, Nat.le_succ_of_le hE.size, Nat.le_refl _, Or.inl (Nat.lt_succ_self _)⟩
    · exact ⟨w11.heap.size, w11.heap.size + 1, _, A', c', rfl, rfl, rfl, Blk.put2 hz3, Fr.mono (Fr.set_below (Fr.set_below hfb hz2.lt _) hz2.lt _) (by first | exact hz2.lt | (simp; done) | (simp; omega)), fun b hb => (by have := (hfb.row b hb).2; simpa using this), Chg.of_ex ((hE3.put (Nat.le_refl _) _).put (Nat.le_refl _) _), (Nat.le_refl _), Nat.le_succ_of_le (Nat.le_refl _), Nat.le_refl _, Or.inl (Nat.lt_succ_self _)⟩
  obtain ⟨gH, lo13, hi13, A13, c13, rfl, rfl, rfl, hk13, hf13, hr13, hx13, hg13, hlo13, hhi13, hlh13⟩ := hcut
  have KH := Lib.hid hk13
  have HF13 := Lib.hid hf13
  have WHF13 : Hid (∀ b, rowOf A13 c13 = some b → lo13 ≤ b ∧ b < hi13) := Lib.hid (fun b hb => ⟨(hf13.row b hb).1, hr13 b hb⟩)
  have Y13 := Lib.hid hx13
  clear hk13 hf13 hx13 hr13 FK13
  obtain ⟨w13, hw13⟩ : ∃ w13 : World, w13 = wc := ⟨_, rfl⟩
  rw [← hw13] at KH HF13 Y13 hhi13 ⊢
  clear hw13
  have lnH : gH < w13.heap.size := KH.out.lt
  have s13 : w11.heap.size ≤ w13.heap.size := Y13.out.size
  have Ew13 : Hid (Ex w w13) := Lib.hid (Ew11.out.chg Y13.out (by omega))
  clear qX0 qX1 jX
  clear qQ00 qQ01 qQ02 qQ03 qQ04 qQ05 jQ0
  clear qW0 qW1 jW
  clear qG0 qG1 jG
  replace KX : Hid (Blk w13 (w.heap.size) 35 [.slice A t.lines.length c, .int .i64 t.hand]) := Lib.hid (KX.out.chg Y13.out (by omega))
  replace KQ0 : Hid (Blk w13 (w.heap.size + 1) 57 [.bool x.valid, .int .i64 x.tag, .int .i64 x.page, .int .i64 x.frame, .int .i64 x.rights, .bool x.wired]) := Lib.hid (KQ0.out.chg Y13.out (by omega))
  replace KW : Hid (Blk w13 (gW) 25 [.slice A3 u.lines.length c3, .int .i64 u.hand]) := Lib.hid (KW.out.chg Y13.out (by omega))
  replace KG : Hid (Blk w13 (gG) 25 [.slice A5 u.lines.length c5, .int .i64 u.hand]) := Lib.hid (KG.out.chg Y13.out (by omega))
  replace HF3 := Lib.hid (HF3.out.chg Y13.out WHF3.out (by omega))
  replace HF10 := Lib.hid (HF10.out.chg Y13.out WHF10.out (by omega))
  replace DX := Lib.hid (HX.out.ex Ew13.out)
  obtain ⟨qX0, qX1⟩ := KX.out.c2
  have jX := KX.out.lt
  obtain ⟨qQ00, qQ01, qQ02, qQ03, qQ04, qQ05⟩ := KQ0.out.c6
  have jQ0 := KQ0.out.lt
  obtain ⟨qW0, qW1⟩ := KW.out.c2
  have jW := KW.out.lt
  obtain ⟨qG0, qG1⟩ := KG.out.c2
  have jG := KG.out.lt
  obtain ⟨qH0, qH1⟩ := KH.out.c2
  have jH := KH.out.lt
  go_wp2_with fail
  refine name_calls ?_; intro v14 hv14
  have X14 : Hid (Chg (0) (0) w13 v14) := Lib.hid (by rw [hv14]; repeat' (first | with_reducible exact Chg.refl _ _ _ | with_reducible refine Chg.alloc ?_ _ | with_reducible refine Chg.drew ?_ | with_reducible refine Chg.set ?_ (by omega) _))
  have t14 : w13.heap.size ≤ v14.heap.size := X14.out.size
  have Ev14 : Hid (Ex w v14) := Lib.hid (Ew13.out.chg X14.out (by omega))
  clear qX0 qX1 jX
  clear qQ00 qQ01 qQ02 qQ03 qQ04 qQ05 jQ0
  clear qW0 qW1 jW
  clear qG0 qG1 jG
  clear qH0 qH1 jH
  replace KX : Hid (Blk v14 (w.heap.size) 35 [.slice A t.lines.length c, .int .i64 t.hand]) := Lib.hid (KX.out.chg X14.out (by omega))
  replace KQ0 : Hid (Blk v14 (w.heap.size + 1) 57 [.bool x.valid, .int .i64 x.tag, .int .i64 x.page, .int .i64 x.frame, .int .i64 x.rights, .bool x.wired]) := Lib.hid (KQ0.out.chg X14.out (by omega))
  replace KW : Hid (Blk v14 (gW) 25 [.slice A3 u.lines.length c3, .int .i64 u.hand]) := Lib.hid (KW.out.chg X14.out (by omega))
  replace KG : Hid (Blk v14 (gG) 25 [.slice A5 u.lines.length c5, .int .i64 u.hand]) := Lib.hid (KG.out.chg X14.out (by omega))
  replace KH : Hid (Blk v14 (gH) 25 [.slice A13 u.lines.length c13, .int .i64 u.hand]) := Lib.hid (KH.out.chg X14.out (by omega))
  replace HF3 := Lib.hid (HF3.out.chg X14.out WHF3.out (by omega))
  replace HF10 := Lib.hid (HF10.out.chg X14.out WHF10.out (by omega))
  replace HF13 := Lib.hid (HF13.out.chg X14.out WHF13.out (by omega))
  replace DX := Lib.hid (HX.out.ex Ev14.out)
  clear hv14
  refine (eqCache_self_c u _ _ _ _ _ HF13.out.rd HF3.out.rd hfew).mono ?_; rintro r w14 ⟨rfl, hb14⟩
  have Y14 : Hid (Chg 0 0 v14 w14) := Lib.hid (Chg.of_ex hb14)
  have s14 : v14.heap.size ≤ w14.heap.size := Y14.out.size
  have Ew14 : Hid (Ex w w14) := Lib.hid (Ev14.out.chg Y14.out (by omega))
  clear hb14
  replace KX : Hid (Blk w14 (w.heap.size) 35 [.slice A t.lines.length c, .int .i64 t.hand]) := Lib.hid (KX.out.chg Y14.out (by omega))
  replace KQ0 : Hid (Blk w14 (w.heap.size + 1) 57 [.bool x.valid, .int .i64 x.tag, .int .i64 x.page, .int .i64 x.frame, .int .i64 x.rights, .bool x.wired]) := Lib.hid (KQ0.out.chg Y14.out (by omega))
  replace KW : Hid (Blk w14 (gW) 25 [.slice A3 u.lines.length c3, .int .i64 u.hand]) := Lib.hid (KW.out.chg Y14.out (by omega))
  replace KG : Hid (Blk w14 (gG) 25 [.slice A5 u.lines.length c5, .int .i64 u.hand]) := Lib.hid (KG.out.chg Y14.out (by omega))
  replace KH : Hid (Blk w14 (gH) 25 [.slice A13 u.lines.length c13, .int .i64 u.hand]) := Lib.hid (KH.out.chg Y14.out (by omega))
  replace HF3 := Lib.hid (HF3.out.chg Y14.out WHF3.out (by omega))
  replace HF10 := Lib.hid (HF10.out.chg Y14.out WHF10.out (by omega))
  replace HF13 := Lib.hid (HF13.out.chg Y14.out WHF13.out (by omega))
  replace DX := Lib.hid (HX.out.ex Ew14.out)
  obtain ⟨qX0, qX1⟩ := KX.out.c2
  have jX := KX.out.lt
  obtain ⟨qQ00, qQ01, qQ02, qQ03, qQ04, qQ05⟩ := KQ0.out.c6
  have jQ0 := KQ0.out.lt
  obtain ⟨qW0, qW1⟩ := KW.out.c2
  have jW := KW.out.lt
  obtain ⟨qG0, qG1⟩ := KG.out.c2
  have jG := KG.out.lt
  obtain ⟨qH0, qH1⟩ := KH.out.c2
  have jH := KH.out.lt
  go_wp2_with fail
  refine name_calls ?_; intro v15 hv15
  have X15 : Hid (Chg (0) (0) w14 v15) := Lib.hid (by rw [hv15]; repeat' (first | with_reducible exact Chg.refl _ _ _ | with_reducible refine Chg.alloc ?_ _ | with_reducible refine Chg.drew ?_ | with_reducible refine Chg.set ?_ (by omega) _))
  have t15 : w14.heap.size ≤ v15.heap.size := X15.out.size
  have Ev15 : Hid (Ex w v15) := Lib.hid (Ew14.out.chg X15.out (by omega))
  clear qX0 qX1 jX
  clear qQ00 qQ01 qQ02 qQ03 qQ04 qQ05 jQ0
  clear qW0 qW1 jW
  clear qG0 qG1 jG
  clear qH0 qH1 jH
  replace KX : Hid (Blk v15 (w.heap.size) 35 [.slice A t.lines.length c, .int .i64 t.hand]) := Lib.hid (KX.out.chg X15.out (by omega))
  replace KQ0 : Hid (Blk v15 (w.heap.size + 1) 57 [.bool x.valid, .int .i64 x.tag, .int .i64 x.page, .int .i64 x.frame, .int .i64 x.rights, .bool x.wired]) := Lib.hid (KQ0.out.chg X15.out (by omega))
  replace KW : Hid (Blk v15 (gW) 25 [.slice A3 u.lines.length c3, .int .i64 u.hand]) := Lib.hid (KW.out.chg X15.out (by omega))
  replace KG : Hid (Blk v15 (gG) 25 [.slice A5 u.lines.length c5, .int .i64 u.hand]) := Lib.hid (KG.out.chg X15.out (by omega))
  replace KH : Hid (Blk v15 (gH) 25 [.slice A13 u.lines.length c13, .int .i64 u.hand]) := Lib.hid (KH.out.chg X15.out (by omega))
  replace HF3 := Lib.hid (HF3.out.chg X15.out WHF3.out (by omega))
  replace HF10 := Lib.hid (HF10.out.chg X15.out WHF10.out (by omega))
  replace HF13 := Lib.hid (HF13.out.chg X15.out WHF13.out (by omega))
  replace DX := Lib.hid (HX.out.ex Ev15.out)
  clear hv15
  refine (heldCache_c _ _ _ _ _ _ HF10.out.rd hfew (by omega) (by omega)).mono ?_; rintro r w15 ⟨rfl, hb15⟩
  have Y15 : Hid (Chg 0 0 v15 w15) := Lib.hid (Chg.of_ex hb15)
  have s15 : v15.heap.size ≤ w15.heap.size := Y15.out.size
  have Ew15 : Hid (Ex w w15) := Lib.hid (Ev15.out.chg Y15.out (by omega))
  clear hb15
  replace KX : Hid (Blk w15 (w.heap.size) 35 [.slice A t.lines.length c, .int .i64 t.hand]) := Lib.hid (KX.out.chg Y15.out (by omega))
  replace KQ0 : Hid (Blk w15 (w.heap.size + 1) 57 [.bool x.valid, .int .i64 x.tag, .int .i64 x.page, .int .i64 x.frame, .int .i64 x.rights, .bool x.wired]) := Lib.hid (KQ0.out.chg Y15.out (by omega))
  replace KW : Hid (Blk w15 (gW) 25 [.slice A3 u.lines.length c3, .int .i64 u.hand]) := Lib.hid (KW.out.chg Y15.out (by omega))
  replace KG : Hid (Blk w15 (gG) 25 [.slice A5 u.lines.length c5, .int .i64 u.hand]) := Lib.hid (KG.out.chg Y15.out (by omega))
  replace KH : Hid (Blk w15 (gH) 25 [.slice A13 u.lines.length c13, .int .i64 u.hand]) := Lib.hid (KH.out.chg Y15.out (by omega))
  replace HF3 := Lib.hid (HF3.out.chg Y15.out WHF3.out (by omega))
  replace HF10 := Lib.hid (HF10.out.chg Y15.out WHF10.out (by omega))
  replace HF13 := Lib.hid (HF13.out.chg Y15.out WHF13.out (by omega))
  replace DX := Lib.hid (HX.out.ex Ew15.out)
  obtain ⟨qX0, qX1⟩ := KX.out.c2
  have jX := KX.out.lt
  obtain ⟨qQ00, qQ01, qQ02, qQ03, qQ04, qQ05⟩ := KQ0.out.c6
  have jQ0 := KQ0.out.lt
  obtain ⟨qW0, qW1⟩ := KW.out.c2
  have jW := KW.out.lt
  obtain ⟨qG0, qG1⟩ := KG.out.c2
  have jG := KG.out.lt
  obtain ⟨qH0, qH1⟩ := KH.out.c2
  have jH := KH.out.lt
  go_wp2
  go_ret
  exact ⟨rfl, Ew15.out⟩
end Go.Proofs.Ytcaaficjcghheab
