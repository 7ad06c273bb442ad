/- Drawn tags: l5Draw. -/
import Derived.Test.YtidnefcnojedoaaSb
import Derived.Test.YtidnefcnojedoaaTz
import Derived.Test.YtidnefcnojedoaaTk
import Derived.Test.YtidnefcnojedoaaTe
import Derived.Deep.DeepCutAuto
namespace Go.Proofs.Ytidnefcnojedoaa
open Go.ChangeShapes Go.WideShapes Go.ChangeAt Go.RowKit
open Rec (sz cs)
set_option linter.unusedVariables false
set_option maxRecDepth 100000

theorem newTags_few (n : Int) : (newTags n).1.owns.length ≤ 8 := by
  unfold newTags; split <;> simp [noTags]
theorem leaveTag_few8 (t : TagsD) (s : Int) (h : t.owns.length ≤ 8) : (leaveTag t s).1.owns.length ≤ 8 := by
  rcases leaveTag_or t s with e | ⟨k, x, hv, hx, hs, hp, e⟩
  · rw [e]; exact Nat.zero_le _
  · rw [e]; simp only [List.length_append, List.length_take, List.length_drop]; omega

/-- What the first drawn statement leaves. -/
def DrawA (g gC p lo : Nat) (w : World) (wx : World) : Prop := ∃ (u : TagsD) (A : Option Addr) (c p' : Nat), u.owns.length ≤ 8 ∧ Blk wx gC 25 [.int .i64 u.count, .int .i64 u.next, .int .i64 u.round, .slice A u.owns.length c] ∧ Fr 50 wx lo A c u.owns ∧ Rdr wx g p' ∧ p' ≤ p + 11 ∧ Chg g (g + 1) w wx ∧ Blk wx w.heap.size 25 [.int .i64 0, .int .i64 0, .int .i64 0, .slice none 0 0] ∧ (∀ b, rowOf A c = some b → b ≠ gC)
/-- What the second leaves. -/
def DrawB (g gC p lo : Nat) (w : World) (u : TagsD) (A : Option Addr) (c : Nat) (s5 s6 : Value) (wx : World) : Prop := ∃ (v : TagsD) (ok : Bool) (A' : Option Addr) (c' gN : Nat), s5 = .pointer (some ⟨gN, 0, none⟩) ∧ s6 = .bool ok ∧ v.owns.length ≤ 8 ∧ Blk wx gN 25 [.int .i64 v.count, .int .i64 v.next, .int .i64 v.round, .slice A' v.owns.length c'] ∧ Fr 50 wx lo A' c' v.owns ∧ (∀ b, rowOf A' c' = some b → b ≠ gC) ∧ gC < gN ∧
  Blk wx gC 25 [.int .i64 u.count, .int .i64 u.next, .int .i64 u.round, .slice A u.owns.length c] ∧ Fr 50 wx lo A c u.owns ∧ Rdr wx g p ∧ Chg g (g + 1) w wx ∧ Blk wx w.heap.size 25 [.int .i64 0, .int .i64 0, .int .i64 0, .slice none 0 0]

set_option maxHeartbeats 8000000 in
theorem l5Draw_c (g p : Nat) (w : World) (h : Rdr w g p) (hp : p ≤ 700000) : Calls Try.prog 19 #[.pointer (some ⟨g, 0, none⟩)] w (SomeTagsR g p 8 w) := by
  have lg := h.lt
  have HR0 := Lib.hid h
  clear h
  go_enter Try.func19, Try.ntmps19
  go_wp2_with fail
  refine name_calls ?_; intro v1 hv1
  have X1 : Hid (Chg (0) (0) w v1) := Lib.hid (by rw [hv1]; repeat' (first | with_reducible exact Chg.refl _ _ _ | with_reducible refine Chg.alloc ?_ _ | with_reducible refine Chg.drew ?_ | with_reducible refine Chg.set ?_ (by omega) _))
  have t1 : w.heap.size ≤ v1.heap.size := X1.out.size
  have Ev1 : Hid (Chg g (g + 1) w v1) := Lib.hid ((Chg.refl g (g + 1) w).step X1.out (by omega))
  replace HR0 := Lib.hid (HR0.out.chg X1.out (by omega))
  have L1 : Hid (Rd v1 (some ⟨w.heap.size + 1, 0, none⟩) ([3, 2, 4, 1, 8] : List Int)) := Lib.hid (by rw [hv1]; repeat' (first | exact Rd.lits _ _ _ | exact Rd.lits_at _ _ _ (by simp) | with_reducible refine Rd.alloc ?_ _))
  have KR : Hid (Blk v1 (w.heap.size) 25 [.int .i64 0, .int .i64 0, .int .i64 0, .slice none 0 0]) := Lib.hid (by rw [hv1]; repeat' (first | with_reducible exact Blk.new_at _ _ _ (by simp) | with_reducible refine Blk.alloc ?_ _ | with_reducible refine Blk.drew ?_ | with_reducible refine Blk.far ?_ (by simp; omega) _))
  have lR : w.heap.size < v1.heap.size := KR.out.lt
  clear hv1
  refine (num_c g p _ 0 _ [3, 2, 4, 1, 8] _ HR0.out L1.out (by simp) (by simp) (by omega) (by omega)).mono ?_; rintro r w1 ⟨n1, rfl, hhn1, hrd1, hb1⟩
  have Y1 : Hid (Chg (g) (g + 1) v1 w1) := Lib.hid (Chg.of_grown hb1 (fun b hb => by injection hb with hb; omega))
  have s1 : v1.heap.size ≤ w1.heap.size := Y1.out.size
  have Ew1 : Hid (Chg g (g + 1) w w1) := Lib.hid (Ev1.out.step Y1.out (by omega))
  clear hb1
  replace KR : Hid (Blk w1 (w.heap.size) 25 [.int .i64 0, .int .i64 0, .int .i64 0, .slice none 0 0]) := Lib.hid (KR.out.chg Y1.out (by omega))
  clear HR0
  have HRD1 := Lib.hid hrd1; clear hrd1
  have HHN1 := Lib.hid hhn1; clear hhn1
  obtain ⟨qR0, qR1, qR2, qR3⟩ := KR.out.c4
  have jR := KR.out.lt
  have zR := KR.out.frozen
  have hf0 := newTags_few n1
  have C2 := Lib.hid (newTagsS_c n1)
  generalize newTags n1 = q at C2 hf0
  obtain ⟨t0, ok0⟩ := q
  dsimp only at C2 hf0
  go_wp2_with fail
  refine name_calls ?_; intro v2 hv2
  have X2 : Hid (Chg (0) (0) w1 v2) := Lib.hid (by rw [hv2]; repeat' (first | with_reducible exact Chg.refl _ _ _ | with_reducible refine Chg.alloc ?_ _ | with_reducible refine Chg.drew ?_ | with_reducible refine Chg.set ?_ (by omega) _))
  have t2 : w1.heap.size ≤ v2.heap.size := X2.out.size
  have Ev2 : Hid (Chg g (g + 1) w v2) := Lib.hid (Ew1.out.step X2.out (by omega))
  clear qR0 qR1 qR2 qR3 jR zR
  replace KR : Hid (Blk v2 (w.heap.size) 25 [.int .i64 0, .int .i64 0, .int .i64 0, .slice none 0 0]) := Lib.hid (KR.out.chg X2.out (by omega))
  replace HRD1 := Lib.hid (HRD1.out.chg X2.out (by omega))
  clear hv2
  refine (C2.out _).mono ?_; rintro r w2 ⟨A2, c2, rfl, hf2, hb2⟩
  have Y2 : Hid (Chg 0 0 v2 w2) := Lib.hid (Chg.of_ex hb2)
  have s2 : v2.heap.size ≤ w2.heap.size := Y2.out.size
  have Ew2 : Hid (Chg g (g + 1) w w2) := Lib.hid (Ev2.out.step Y2.out (by omega))
  clear hb2
  replace KR : Hid (Blk w2 (w.heap.size) 25 [.int .i64 0, .int .i64 0, .int .i64 0, .slice none 0 0]) := Lib.hid (KR.out.chg Y2.out (by omega))
  replace HRD1 := Lib.hid (HRD1.out.chg Y2.out (by omega))
  have HF2 := Lib.hid hf2; clear hf2
  have WHF2 := Lib.hid HF2.out.row
  obtain ⟨qR0, qR1, qR2, qR3⟩ := KR.out.c4
  have jR := KR.out.lt
  have zR := KR.out.frozen
  clear HHN1
  go_wp2_with fail
  obtain ⟨w0, hw0⟩ : ∃ w0 : World, w0 = w2.alloc (.cells #[.int .i64 t0.count, .int .i64 t0.next, .int .i64 t0.round, .slice A2 t0.owns.length c2] 25) := ⟨_, rfl⟩
  obtain ⟨gC, hgC⟩ : ∃ gC : Nat, gC = w2.heap.size := ⟨_, rfl⟩
  have Ew0 : Hid (Chg g (g + 1) w w0) := Lib.hid (by rw [hw0]; exact Ew2.out.alloc _)
  have KC : Hid (Blk w0 gC 25 [.int .i64 t0.count, .int .i64 t0.next, .int .i64 t0.round, .slice A2 t0.owns.length c2]) := Lib.hid (by rw [hw0, hgC]; exact Blk.new _ _ _)
  have KR0 : Hid (Blk w0 w.heap.size 25 [.int .i64 0, .int .i64 0, .int .i64 0, .slice none 0 0]) := Lib.hid (by rw [hw0]; exact KR.out.alloc _)
  have HF0 : Hid (Fr 50 w0 v2.heap.size A2 c2 t0.owns) := Lib.hid (by rw [hw0]; exact HF2.out.alloc _)
  have HRD0 : Hid (Rdr w0 g (p + 1)) := Lib.hid (by rw [hw0]; exact HRD1.out.alloc _)
  have hgC1 : gC < w0.heap.size := KC.out.lt
  have hgC2 : w.heap.size < gC := by omega
  have hgV : w.heap.size < v2.heap.size := by omega
  have hgV2 : v2.heap.size ≤ w0.heap.size := by rw [hw0]; simp; omega
  have WHF0 : Hid (∀ b, rowOf A2 c2 = some b → v2.heap.size ≤ b ∧ b < gC) := Lib.hid (fun b hb => by have := WHF2.out b hb; omega)
  rw [← hw0]
  try rw [← hgC]
  clear hw0 hgC
  clear qR0 qR1 qR2 qR3 jR zR
  clear KR
  clear HF2 WHF2
  clear HRD1
  have hle := HF0.out.le
  have hca := HF0.out.cap
  have hn0 : t0.owns.length ≤ 1048576 := by omega
  have C3 := Lib.hid (fun zs => takeTagsS_c t0 zs)
  have F3 := Lib.hid (fun zs => takeTags_few t0 zs)
  have CE1 : Hid (∀ (args : Array Value) (w : World), (callFunc 39 args).run Try.prog w = .ok (.enter 39 args) w) := Lib.hid (enters Try.func39 (by kernel_rfl) (by kernel_rfl))
  have CE2 : Hid (∀ (args : Array Value) (w : World), (callFunc 38 args).run Try.prog w = .ok (.enter 38 args) w) := Lib.hid (enters Try.func38 (by kernel_rfl) (by kernel_rfl))
  have hp4 : p + 1 ≤ 800000 := by omega
  have hneC : some gC ≠ some g := fun e => by injection e with e; omega
  have hneR : some w.heap.size ≠ some g := fun e => by injection e with e; omega
  have FRK : Hid (∀ wa, w0.drew.grownBy wa (some g) → Fr 50 wa v2.heap.size A2 c2 t0.owns) := Lib.hid (fun wa h1 => Fr.chg HF0.out ((Chg.refl g (g + 1) w0).drew.trans (Chg.of_grown h1 (fun b hb => by injection hb with hb; omega))) WHF0.out (by omega))
  have H1M : Hid (∀ zs : List Int, zs.length ≤ 8 → zs.length ≤ 1048576) := Lib.hid (fun zs h => by omega)
  obtain ⟨qC0, qC1, qC2, qC3⟩ := KC.out.c4
  have jC := KC.out.lt
  have zC := KC.out.frozen
  go_cut [14] (fun s14 wx => DrawA g gC p (w.heap.size + 1) w wx)
  case first =>
    go_region_law (first | (refine step_call rfl CE1.out _ _ rfl #[.pointer (some ⟨g, 0, none⟩)] rfl (l5Spaces_c g (p + 1) _ (Rdr.drew HRD0.out) hp4) ?_; rintro r wa ⟨zs, Az, cz, pz, rfl, hzl, hfz, hra, hpz, hga⟩; refine ⟨_, rfl, ?_⟩; have hka := Blk.grown (Blk.drew KC.out) hga hneC; obtain ⟨ha0, ha1, ha2, ha3⟩ := hka.c4; have haf := hka.frozen; have hal := hka.lt) | (refine step_call rfl CE2.out _ _ rfl #[.agg #[.int .i64 t0.count, .int .i64 t0.next, .int .i64 t0.round, .slice A2 t0.owns.length c2], .slice Az zs.length cz] rfl (C3.out zs A2 Az c2 cz _ (FRK.out _ hga).rd hfz.rd hn0 hle hca (H1M.out zs hzl)) ?_; rintro r wb ⟨A5, c5, rfl, hf5, hb5⟩; refine ⟨_, rfl, ?_⟩; have hkb := Blk.ex hka hb5; obtain ⟨hb0, hb1, hb2, hb3⟩ := hkb.c4; have hbf := hkb.frozen; have hbl := hkb.lt))
    all_goals (go_wp2_with fail; go_meet)
    all_goals
      have hCa : Chg g (g + 1) w0 wa := (Chg.refl g (g + 1) w0).drew.trans (Chg.of_grown hga (fun b hb => by injection hb with hb; omega))
      have hCb : Chg g (g + 1) w0 wb := hCa.trans ((Chg.of_ex hb5).mono' _ _)
      have hsa := hCa.size
      have hR : Blk wb w.heap.size 25 [.int .i64 0, .int .i64 0, .int .i64 0, .slice none 0 0] := KR0.out.chg hCb (by omega)
      have hlb : gC < wb.heap.size := hkb.lt
      exact ⟨(takeTags t0 zs).1, A5, c5, pz, F3.out zs, Blk.put4 hkb, Fr.mono (B := wa.heap.size) ((((hf5.set_below (by simp only; omega) _).set_below (by simp only; omega) _).set_below (by simp only; omega) _).set_below (by simp only; omega) _) (by omega), Rdr.chg (lo := gC) (hi := gC + 1) (hra.ex hb5) (by repeat' (first | with_reducible exact Chg.refl _ _ wb | with_reducible refine Chg.alloc ?_ _ | with_reducible refine Chg.drew ?_ | with_reducible refine Chg.set ?_ (by omega) _)) (by omega), by omega, (by repeat' (first | with_reducible exact Ew0.out.trans hCb | with_reducible refine Chg.alloc ?_ _ | with_reducible refine Chg.drew ?_ | with_reducible refine Chg.set ?_ (by omega) _)), by repeat' (first | with_reducible exact hR | with_reducible refine Blk.far ?_ (by simp only; omega) _), fun b hb => by have := hf5.row b hb; omega⟩
  case rest =>
    obtain ⟨u, A, c, p1, hu8, hkc, hfu, hrd, hp1, hch, hkr, hrow⟩ := hcut
    obtain ⟨w4, hw4⟩ : ∃ w4, w4 = wc := ⟨_, rfl⟩
    subst hw4
    have HFU := Lib.hid hfu
    have KC := Lib.hid hkc
    have KR := Lib.hid hkr
    have HRD := Lib.hid hrd
    have Ew4 := Lib.hid hch
    have HROW := Lib.hid hrow
    have WHFU := Lib.hid HFU.out.row
    have hszc := Ew4.out.size
    have hnu : u.owns.length ≤ 1048576 := by omega
    have hleu := HFU.out.le
    have hcau := HFU.out.cap
    clear hkc hfu hrd hch hkr hrow
    obtain ⟨qC0, qC1, qC2, qC3⟩ := KC.out.c4
    have jC := KC.out.lt
    obtain ⟨qR0, qR1, qR2, qR3⟩ := KR.out.c4
    have jR := KR.out.lt
    have zR := KR.out.frozen
    have zC := KC.out.frozen
    have lgC : gC < w4.heap.size := KC.out.lt
    go_wp2_with fail
    refine name_calls ?_; intro v5 hv5
    have X5 : Hid (Chg (0) (0) w4 v5) := Lib.hid (by rw [hv5]; repeat' (first | with_reducible exact Chg.refl _ _ _ | with_reducible refine Chg.alloc ?_ _ | with_reducible refine Chg.drew ?_ | with_reducible refine Chg.set ?_ (by omega) _))
    have t5 : w4.heap.size ≤ v5.heap.size := X5.out.size
    have Ev5 : Hid (Chg g (g + 1) w v5) := Lib.hid (Ew4.out.step X5.out (by omega))
    clear qC0 qC1 qC2 qC3 jC zC
    clear qR0 qR1 qR2 qR3 jR zR
    replace KC : Hid (Blk v5 (gC) 25 [.int .i64 u.count, .int .i64 u.next, .int .i64 u.round, .slice A u.owns.length c]) := Lib.hid (KC.out.chg X5.out (by omega))
    replace KR : Hid (Blk v5 (w.heap.size) 25 [.int .i64 0, .int .i64 0, .int .i64 0, .slice none 0 0]) := Lib.hid (KR.out.chg X5.out (by omega))
    replace HFU := Lib.hid (HFU.out.chg X5.out WHFU.out (by omega))
    replace HRD := Lib.hid (HRD.out.chg X5.out (by omega))
    clear hv5
    refine (pick_c g p1 4 _ HRD.out (by omega) (by omega)).mono ?_; rintro r w5 ⟨z5, rfl, hh5, hrd5, hb5⟩
    have Y5 : Hid (Chg (g) (g + 1) v5 w5) := Lib.hid (Chg.of_grown hb5 (fun b hb => by injection hb with hb; omega))
    have s5 : v5.heap.size ≤ w5.heap.size := Y5.out.size
    have Ew5 : Hid (Chg g (g + 1) w w5) := Lib.hid (Ev5.out.step Y5.out (by omega))
    clear hb5
    replace KC : Hid (Blk w5 (gC) 25 [.int .i64 u.count, .int .i64 u.next, .int .i64 u.round, .slice A u.owns.length c]) := Lib.hid (KC.out.chg Y5.out (by omega))
    replace KR : Hid (Blk w5 (w.heap.size) 25 [.int .i64 0, .int .i64 0, .int .i64 0, .slice none 0 0]) := Lib.hid (KR.out.chg Y5.out (by omega))
    replace HFU := Lib.hid (HFU.out.chg Y5.out WHFU.out (by omega))
    clear HRD
    have HRD5 := Lib.hid hrd5; clear hrd5
    have HH5 := Lib.hid hh5; clear hh5
    obtain ⟨qC0, qC1, qC2, qC3⟩ := KC.out.c4
    have jC := KC.out.lt
    have zC := KC.out.frozen
    obtain ⟨qR0, qR1, qR2, qR3⟩ := KR.out.c4
    have jR := KR.out.lt
    have zR := KR.out.frozen
    have hCR : ¬ gC = w.heap.size := by omega
    have hRC : ¬ w.heap.size = gC := by omega
    by_cases hz : z5 = 0
    rotate_left
    · have hz' : (z5 == 0) = false := by simp [hz]
      clear hz
      go_wp2
      exact bodyPost_ret (v := .agg #[.int .i64 u.count, .int .i64 u.next, .int .i64 u.round, .slice A u.owns.length c]) (by first | (simp [results, Try.results19, go_sem, qR0, qR1]; done) | (simp [results, Try.results19, go_sem, qR0, qR1, qR2, qR3]; done)) rfl
        ⟨u, A, c, p1 + 1, rfl, by omega, Fr.mono (B := w.heap.size + 1) (by repeat' (first | with_reducible exact HFU.out | with_reducible refine Fr.alloc ?_ _ | with_reducible refine Fr.put ?_ (fun b hb => by have := HROW.out b hb; have := WHFU.out b hb; omega) _)) (by omega), Rdr.chg (lo := w.heap.size) (hi := gC + 1) HRD5.out (by repeat' (first | with_reducible exact Chg.refl _ _ w5 | with_reducible refine Chg.alloc ?_ _ | with_reducible refine Chg.drew ?_ | with_reducible refine Chg.set ?_ (by omega) _)) (by omega), by omega, Chg.grown (by repeat' (first | with_reducible exact Ew5.out | with_reducible refine Chg.alloc ?_ _ | with_reducible refine Chg.drew ?_ | with_reducible refine Chg.set ?_ (by omega) _))⟩
    have hz' : (z5 == 0) = true := by simp [hz]
    clear hz
    have CP : Hid (∀ w1, Rdr w1 g (p1 + 1) → Calls Try.prog 24 #[.pointer (some ⟨g, 0, none⟩), .int .i64 4] w1 (Picked g (p1 + 1) 4 w1)) := Lib.hid (fun w1 h => pick_c g (p1 + 1) 4 w1 h (by omega) (by omega))
    have CL := Lib.hid (fun s => leaveTagS_c u s)
    have FL := Lib.hid (fun s => leaveTag_few8 u s hu8)
    have CEP : Hid (∀ (args : Array Value) (w : World), (callFunc 24 args).run Try.prog w = .ok (.enter 24 args) w) := Lib.hid (enters Try.func24 (by kernel_rfl) (by kernel_rfl))
    have CEL : Hid (∀ (args : Array Value) (w : World), (callFunc 40 args).run Try.prog w = .ok (.enter 40 args) w) := Lib.hid (enters Try.func40 (by kernel_rfl) (by kernel_rfl))
    have HGR : Hid (∀ b, some g = some b → g ≤ b ∧ b < g + 1) := Lib.hid (fun b hb => by injection hb with hb; omega)
    have HNE5 : Hid (some w5.heap.size ≠ some g) := Lib.hid (fun e => by injection e with e; omega)
    have HNC : Hid (gC < g ∨ g + 1 ≤ gC) := Lib.hid (by omega)
    have HNR : Hid (w.heap.size < g ∨ g + 1 ≤ w.heap.size) := Lib.hid (by omega)
    have FRU : Hid (∀ wa, Chg g (g + 1) w5 wa → Fr 50 wa (w.heap.size + 1) A c u.owns) := Lib.hid (fun wa h1 => HFU.out.chg h1 WHFU.out (by omega))
    go_wp2_with fail
    go_cut [5, 6] (fun s5 s6 wx => DrawB g gC (p1 + 1 + 1) (w.heap.size + 1) w u A c s5 s6 wx)
    case first =>
      go_region_law (first | ((first | refine step_call rfl CEP.out _ _ rfl #[.pointer (some ⟨g, 0, none⟩), .int .i64 4] rfl (CP.out _ (Rdr.drew HRD5.out)) ?_ | refine step_call rfl CEP.out _ _ rfl #[.pointer (some ⟨g, 0, none⟩), .int .i64 4] rfl (CP.out _ (Rdr.drew (HRD5.out.alloc _))) ?_); rintro r wa ⟨z6, rfl, hv6, hra, hga⟩; refine ⟨_, rfl, ?_⟩; (first | (with_reducible (have hCa : Chg g (g + 1) w5 wa := (Chg.refl g (g + 1) w5).drew.trans (Chg.of_grown hga HGR.out))) | (with_reducible (have hCa : Chg g (g + 1) w5 wa := ((Chg.refl g (g + 1) w5).alloc _).drew.trans (Chg.of_grown hga HGR.out)); have hN : Blk wa w5.heap.size 25 [.int .i64 0, .int .i64 0, .int .i64 0, .slice none 0 0] := Blk.grown (Blk.drew (Blk.new w5 25 [.int .i64 0, .int .i64 0, .int .i64 0, .slice none 0 0])) hga HNE5.out; obtain ⟨hn0, hn1, hn2, hn3⟩ := hN.c4; have hnf := hN.frozen; have hnl := hN.lt)); have hka := Blk.chg KC.out hCa HNC.out; obtain ⟨ha0, ha1, ha2, ha3⟩ := hka.c4; have haf := hka.frozen; have hal := hka.lt) | ((first | refine step_call rfl CEL.out _ _ rfl #[.agg #[.int .i64 u.count, .int .i64 u.next, .int .i64 u.round, .slice A u.owns.length c], .int .i64 z6] rfl (CL.out z6 A c _ (FRU.out _ hCa).rd hnu hleu hcau) ?_ | refine step_call rfl CEL.out _ _ rfl #[.agg #[.int .i64 u.count, .int .i64 u.next, .int .i64 u.round, .slice A u.owns.length c], .int .i64 z6] rfl (CL.out z6 A c _ ((FRU.out _ hCa).alloc _).rd hnu hleu hcau) ?_); rintro r wb ⟨A5, c5, rfl, hf5, hb5⟩; refine ⟨_, rfl, ?_⟩; (first | (with_reducible (have hEb : Ex wa wb := hb5); (try (have hNb := Blk.ex hN hb5; obtain ⟨hm0, hm1, hm2, hm3⟩ := hNb.c4; have hmf := hNb.frozen; have hml := hNb.lt))) | (with_reducible (have hEb : Ex wa wb := ((Ex.refl wa).alloc _).trans hb5); have hM : Blk wb wa.heap.size 25 [.int .i64 0, .int .i64 0, .int .i64 0, .slice none 0 0] := Blk.ex (Blk.new wa 25 [.int .i64 0, .int .i64 0, .int .i64 0, .slice none 0 0]) hb5; obtain ⟨hm0, hm1, hm2, hm3⟩ := hM.c4; have hmf := hM.frozen; have hml := hM.lt)); have hkb := Blk.ex hka hEb; obtain ⟨hb0, hb1, hb2, hb3⟩ := hkb.c4; have hbf := hkb.frozen; have hbl := hkb.lt))
      all_goals (go_wp2_with fail; go_meet)
      all_goals
        have hCb : Chg g (g + 1) w5 wb := hCa.trans ((Chg.of_ex hEb).mono' _ _)
        have hsa := hCa.size
        have hsb := hEb.size
        have FRb := FRU.out wb hCb
        have hRb : Blk wb w.heap.size 25 [.int .i64 0, .int .i64 0, .int .i64 0, .slice none 0 0] := KR.out.chg hCb HNR.out
        have hrb : Rdr wb g (p1 + 1 + 1) := hra.ex hEb
        have hlk : gC < w5.heap.size := KC.out.lt
        have hf6 : Fr 50 wb wa.heap.size A5 c5 (leaveTag u z6).1.owns := Fr.mono hf5 (by simp)
        first
        | (refine ⟨(leaveTag u z6).1, (leaveTag u z6).2, A5, c5, wb.heap.size, ?hp, rfl, FL.out z6, ?_⟩
           case hp => with_reducible rfl
           exact ⟨Blk.new _ _ _, (Fr.mono hf6 (by omega)).alloc _, fun b hb => by have := hf6.row b hb; omega, by omega, hkb.alloc _, FRb.alloc _, hrb.alloc _, Chg.alloc (Ew5.out.trans hCb) _, hRb.alloc _⟩)
        | (refine ⟨(leaveTag u z6).1, (leaveTag u z6).2, A5, c5, wa.heap.size, ?hp, rfl, FL.out z6, ?_⟩
           case hp => with_reducible rfl
           have hlt : wa.heap.size < wb.heap.size := hM.lt
           have hlo : wa.heap.size < wa.heap.size + 1 := by omega
           have hrw : ∀ b, rowOf A5 c5 = some b → wa.heap.size < b ∧ gC < b := fun b hb => by
             have h1 := hf5.row b hb
             try simp at h1
             omega
           exact ⟨Blk.put4 hM, Fr.mono (B := wa.heap.size) (by repeat' (first | with_reducible exact hf6 | with_reducible refine Fr.put ?_ (fun b hb => by have := hrw b hb; omega) _)) (by omega), fun b hb => by have := hrw b hb; omega, by omega, by repeat' (first | with_reducible exact hkb | with_reducible refine Blk.far ?_ (by simp only; omega) _), by repeat' (first | with_reducible exact FRb | with_reducible refine Fr.put ?_ (fun b hb => by have := WHFU.out b hb; omega) _), Rdr.chg (lo := wa.heap.size) (hi := wa.heap.size + 1) hrb (by repeat' (first | with_reducible exact Chg.refl _ _ wb | with_reducible refine Chg.alloc ?_ _ | with_reducible refine Chg.drew ?_ | with_reducible refine Chg.set ?_ (by omega) _)) (by omega), (by repeat' (first | with_reducible exact Ew5.out.trans hCb | with_reducible refine Chg.alloc ?_ _ | with_reducible refine Chg.drew ?_ | with_reducible refine Chg.set ?_ (by omega) _)), by repeat' (first | with_reducible exact hRb | with_reducible refine Blk.far ?_ (by simp only; omega) _)⟩)
        | (refine ⟨(leaveTag u z6).1, (leaveTag u z6).2, A5, c5, w5.heap.size, ?hp, rfl, FL.out z6, ?_⟩
           case hp => with_reducible rfl
           have hlt : w5.heap.size < wb.heap.size := hNb.lt
           have hlo : w5.heap.size < wa.heap.size + 1 := by omega
           have hrw : ∀ b, rowOf A5 c5 = some b → w5.heap.size < b ∧ gC < b := fun b hb => by
             have h1 := hf5.row b hb
             try simp at h1
             omega
           exact ⟨Blk.put4 hNb, Fr.mono (B := wa.heap.size) (by repeat' (first | with_reducible exact hf6 | with_reducible refine Fr.put ?_ (fun b hb => by have := hrw b hb; omega) _)) (by omega), fun b hb => by have := hrw b hb; omega, by omega, by repeat' (first | with_reducible exact hkb | with_reducible refine Blk.far ?_ (by simp only; omega) _), by repeat' (first | with_reducible exact FRb | with_reducible refine Fr.put ?_ (fun b hb => by have := WHFU.out b hb; omega) _), Rdr.chg (lo := w5.heap.size) (hi := w5.heap.size + 1) hrb (by repeat' (first | with_reducible exact Chg.refl _ _ wb | with_reducible refine Chg.alloc ?_ _ | with_reducible refine Chg.drew ?_ | with_reducible refine Chg.set ?_ (by omega) _)) (by omega), (by repeat' (first | with_reducible exact Ew5.out.trans hCb | with_reducible refine Chg.alloc ?_ _ | with_reducible refine Chg.drew ?_ | with_reducible refine Chg.set ?_ (by omega) _)), by repeat' (first | with_reducible exact hRb | with_reducible refine Blk.far ?_ (by simp only; omega) _)⟩)
    case rest =>
      obtain ⟨v, ok, A6, c6, gN, rfl, rfl, hv8, hkn, hfv, hrv, hgn, hkc, hfu, hrd, hch, hkr⟩ := hcut
      have HFV := Lib.hid hfv
      have HRV := Lib.hid hrv
      have HFU2 := Lib.hid hfu
      have KC2 := Lib.hid hkc
      have KR2 := Lib.hid hkr
      have KN2 := Lib.hid hkn
      have HRD6 := Lib.hid hrd
      have Ewc := Lib.hid hch
      have WHFV := Lib.hid HFV.out.row
      have hsz6 := Ewc.out.size
      clear hkc hfu hrd hch hkr hkn hfv hrv
      have WHFU2 := WHFU
      clear qC0 qC1 qC2 qC3 jC zC
      clear KC
      clear qR0 qR1 qR2 qR3 jR zR
      clear KR
      clear HFU WHFU
      clear HRD5
      have KC := KC2
      have KR := KR2
      have KN := KN2
      obtain ⟨qC0, qC1, qC2, qC3⟩ := KC.out.c4
      have jC := KC.out.lt
      obtain ⟨qN0, qN1, qN2, qN3⟩ := KN.out.c4
      have jN := KN.out.lt
      obtain ⟨qR0, qR1, qR2, qR3⟩ := KR.out.c4
      have jR := KR.out.lt
      have zR := KR.out.frozen
      have zC := KC.out.frozen
      have zN := KN.out.frozen
      have hgNC : ¬ gN = gC := by omega
      have hgCN : ¬ gC = gN := by omega
      have lgC6 : gC < wc.heap.size := KC.out.lt
      cases ok
      · go_wp2
        exact bodyPost_ret (v := .agg #[.int .i64 u.count, .int .i64 u.next, .int .i64 u.round, .slice A u.owns.length c]) (by first | (simp [results, Try.results19, go_sem, qR0, qR1]; done) | (simp [results, Try.results19, go_sem, qR0, qR1, qR2, qR3]; done)) rfl
          ⟨u, A, c, p1 + 1 + 1, rfl, by omega, Fr.mono (B := w.heap.size + 1) (by repeat' (first | with_reducible exact HFU2.out | with_reducible refine Fr.alloc ?_ _ | with_reducible refine Fr.put ?_ (fun b hb => by have := HROW.out b hb; have := WHFU2.out b hb; omega) _)) (by omega), Rdr.chg (lo := w.heap.size) (hi := gC + 1) HRD6.out (by repeat' (first | with_reducible exact Chg.refl _ _ wc | with_reducible refine Chg.alloc ?_ _ | with_reducible refine Chg.drew ?_ | with_reducible refine Chg.set ?_ (by omega) _)) (by omega), by omega, Chg.grown (by repeat' (first | with_reducible exact Ewc.out | with_reducible refine Chg.alloc ?_ _ | with_reducible refine Chg.drew ?_ | with_reducible refine Chg.set ?_ (by omega) _))⟩
      · go_wp2
        exact bodyPost_ret (v := .agg #[.int .i64 v.count, .int .i64 v.next, .int .i64 v.round, .slice A6 v.owns.length c6]) (by first | (simp [results, Try.results19, go_sem, qR0, qR1]; done) | (simp [results, Try.results19, go_sem, qR0, qR1, qR2, qR3]; done)) rfl
          ⟨v, A6, c6, p1 + 1 + 1, rfl, by omega, Fr.mono (B := w.heap.size + 1) (by repeat' (first | with_reducible exact HFV.out | with_reducible refine Fr.alloc ?_ _ | with_reducible refine Fr.put ?_ (fun b hb => by have := HRV.out b hb; have := WHFV.out b hb; omega) _)) (by omega), Rdr.chg (lo := w.heap.size) (hi := gC + 1) HRD6.out (by repeat' (first | with_reducible exact Chg.refl _ _ wc | with_reducible refine Chg.alloc ?_ _ | with_reducible refine Chg.drew ?_ | with_reducible refine Chg.set ?_ (by omega) _)) (by omega), by omega, Chg.grown (by repeat' (first | with_reducible exact Ewc.out | with_reducible refine Chg.alloc ?_ _ | with_reducible refine Chg.drew ?_ | with_reducible refine Chg.set ?_ (by omega) _))⟩
end Go.Proofs.Ytidnefcnojedoaa
