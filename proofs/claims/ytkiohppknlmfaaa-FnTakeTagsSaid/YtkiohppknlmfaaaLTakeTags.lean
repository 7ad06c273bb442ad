/- The law FnTakeTags: the walk. -/
import Derived.Test.YtkiohppknlmfaaaSf
import Derived.Test.YtkiohppknlmfaaaTt
import Derived.Test.YtkiohppknlmfaaaTu
import Derived.Test.YtkiohppknlmfaaaTl
import Derived.Test.YtkiohppknlmfaaaTk
import Derived.Test.YtkiohppknlmfaaaTy
import Derived.Test.YtkiohppknlmfaaaTz
import Derived.Test.YtkiohppknlmfaaaTw
import Derived.Test.YtkiohppknlmfaaaTd
import Derived.Test.YtkiohppknlmfaaaTq
import Derived.Deep.RegionHeld3
namespace Go.Proofs.Ytkiohppknlmfaaa
open Go.ChangeShapes Go.WideShapes Go.ChangeAt Go.RowKit
open Rec (sz cs)
set_option linter.unusedVariables false
set_option maxRecDepth 100000

theorem Rd.dropI {w : World} {b o k : Nat} {xs : List Int} (h : Rd w (some ⟨b, o, none⟩) xs) : Rd w (some ⟨b, o + k, none⟩) (xs.drop k) := by
  intro hn
  rw [List.length_drop] at hn
  obtain ⟨b', o', e, hb, hc⟩ := h (by omega)
  injection e with e
  injection e with e1 e2
  subst e1 e2
  refine ⟨b, _, rfl, hb, fun m u hu => ?_⟩
  rw [flat_drop, List.getElem?_drop] at hu
  have := hc _ u hu
  rw [Nat.add_assoc]
  simpa [sz] using this
theorem take_bounds {t u : TagsD} {zs : List Int} {rr : Int} (h : takeTags t zs = (u, rr, true)) : 0 ≤ t.round ∧ t.round ≤ 1000000 ∧ 0 ≤ rr ∧ rr ≤ 64 := by
  obtain ⟨hv, hl, ha, _⟩ := takeTags_eq h
  have hr := takeAll_round zs t 0 (by rw [ha])
  rw [ha] at hr
  have hh := tv_head hv
  unfold TagsHead at hh
  simp only at hr
  omega

set_option maxHeartbeats 16000000 in
theorem walk_FnTakeTags (A : Option Addr) (n c : Nat) (bs : List ByteD) (w : World) (hr : Rd w A bs) (hc : Bytes bs ∧ bs.length = n ∧ n ≤ c ∧ c ≤ maxLen) :
    Calls Try.prog 18 #[.slice A n c] w fun r w' => r = .returned (.bool true) ∧ Ex w w' := by
  obtain ⟨hb, rfl, hnc, hcm⟩ := hc
  by_cases hbig : 1048576 < bs.length
  · have hbig' : (1048576 : Int) < (bs.length : Int) := by omega
    unfold maxLen at hcm
    generalize bs.length = n at *
    go_enter Try.func18, Try.ntmps18
    go_wp2
    go_ret
    exact ⟨rfl, Ex.refl _⟩
  have hsm : ¬ (1048576 : Int) < (bs.length : Int) := by omega
  have C0 := Lib.hid (fun w' (h : Ex w w') => drawTakeTags_c A c bs w' (hr.ex h) hb (by omega) hnc hcm)
  have hcm' := hcm
  unfold maxLen at hcm'
  generalize bs.length = n at *
  clear hr hb hcm
  go_enter Try.func18, Try.ntmps18
  go_wp2_with fail
  refine name_calls ?_; intro v0 hv0
  have X0 : Hid (Chg (0) (0) w v0) := Lib.hid (by rw [hv0]; repeat' (first | with_reducible exact Chg.refl _ _ _ | with_reducible refine Chg.alloc ?_ _ | with_reducible refine Chg.drew ?_ | with_reducible refine Chg.set ?_ (by omega) _))
  have t0 : w.heap.size ≤ v0.heap.size := X0.out.size
  have Ev0 : Hid (Ex w v0) := Lib.hid ((Ex.refl w).chg X0.out (by omega))
  clear hv0
  refine (C0.out _ Ev0.out).mono ?_; rintro r w0 ⟨t, zs, A0, Z0, c0, d0, rfl, hl0, hlz, hf0, hfz, hb0⟩
  have Y0 : Hid (Chg 0 0 v0 w0) := Lib.hid (Chg.of_ex hb0)
  have s0 : v0.heap.size ≤ w0.heap.size := Y0.out.size
  have Ew0 : Hid (Ex w w0) := Lib.hid (Ev0.out.chg Y0.out (by omega))
  clear hb0
  have HF0 := Lib.hid hf0; clear hf0
  have WHF0 := Lib.hid HF0.out.row
  have HFZ := Lib.hid hfz; clear hfz
  have WHFZ := Lib.hid HFZ.out.row
  clear C0
  have hn : t.owns.length ≤ 1048576 := by omega
  have hzn : zs.length ≤ 1048576 := by omega
  have C1 := Lib.hid (takeTagsI_c t zs)
  have C2 := Lib.hid (takeTagsS_c t zs)
  have hfew := (by have := takeTags_few t zs; omega : (takeTags t zs).1.owns.length ≤ 1048576)
  have HLAW : Hid (∀ u rr, takeTags t zs = (u, rr, true) → ∀ k, k ≤ zs.length → ∃ a m n, takeTags t (zs.take k) = (a, m, true) ∧ takeTags a (zs.drop k) = (u, n, true) ∧ m + n = rr ∧ tagsV u = true ∧ u.round = t.round + rr) := Lib.hid (fun u rr h k hk => adds_law h k hk)
  have HBD : Hid (∀ u rr, takeTags t zs = (u, rr, true) → 0 ≤ t.round ∧ t.round ≤ 1000000 ∧ 0 ≤ rr ∧ rr ≤ 64) := Lib.hid (fun u rr h => take_bounds h)
  generalize takeTags t zs = q at C1 C2 hfew HLAW HBD
  obtain ⟨u, rr, ok⟩ := q
  dsimp only at C1 C2 hfew
  have hne0 : (rr != rr) = false := by simp
  have heq0 : (rr == rr) = true := by simp
  cases ok
  · skip
    go_wp2_with fail
    refine name_calls ?_; intro v1 hv1
    have X1 : Hid (Chg (0) (0) w0 v1) := Lib.hid (by rw [hv1]; repeat' (first | with_reducible exact Chg.refl _ _ _ | with_reducible refine Chg.alloc ?_ _ | with_reducible refine Chg.drew ?_ | with_reducible refine Chg.set ?_ (by omega) _))
    have t1 : w0.heap.size ≤ v1.heap.size := X1.out.size
    have Ev1 : Hid (Ex w v1) := Lib.hid (Ew0.out.chg X1.out (by omega))
    replace HF0 := Lib.hid (HF0.out.chg X1.out WHF0.out (by omega))
    replace HFZ := Lib.hid (HFZ.out.chg X1.out WHFZ.out (by omega))
    have KX : Hid (Blk v1 (w0.heap.size) 30 [.int .i64 t.count, .int .i64 t.next, .int .i64 t.round, .slice A0 t.owns.length c0]) := Lib.hid (by rw [hv1]; repeat' (first | with_reducible exact Blk.new_at _ _ _ (by simp) | with_reducible refine Blk.alloc ?_ _ | with_reducible refine Blk.drew ?_ | with_reducible refine Blk.far ?_ (by simp; omega) _))
    have lX : w0.heap.size < v1.heap.size := KX.out.lt
    clear hv1
    refine (C1.out A0 Z0 c0 d0 _ HF0.out.rd HFZ.out.rd hn HF0.out.le HF0.out.cap hzn).mono ?_; rintro r w1 ⟨A1, c1, rfl, hf1, hb1⟩
    have Y1 : Hid (Chg 0 0 v1 w1) := Lib.hid (Chg.of_ex hb1)
    have s1 : v1.heap.size ≤ w1.heap.size := Y1.out.size
    have Ew1 : Hid (Ex w w1) := Lib.hid (Ev1.out.chg Y1.out (by omega))
    clear hb1
    replace KX : Hid (Blk w1 (w0.heap.size) 30 [.int .i64 t.count, .int .i64 t.next, .int .i64 t.round, .slice A0 t.owns.length c0]) := Lib.hid (KX.out.chg Y1.out (by omega))
    replace HF0 := Lib.hid (HF0.out.chg Y1.out WHF0.out (by omega))
    replace HFZ := Lib.hid (HFZ.out.chg Y1.out WHFZ.out (by omega))
    have HF1 := Lib.hid hf1; clear hf1
    have WHF1 := Lib.hid HF1.out.row
    obtain ⟨qX0, qX1, qX2, qX3⟩ := KX.out.c4
    have jX := KX.out.lt
    go_wp2_with fail
    refine name_calls ?_; intro v2 hv2
    have X2 : Hid (Chg (0) (0) w1 v2) := Lib.hid (by rw [hv2]; repeat' (first | with_reducible exact Chg.refl _ _ _ | with_reducible refine Chg.alloc ?_ _ | with_reducible refine Chg.drew ?_ | with_reducible refine Chg.set ?_ (by omega) _))
    have t2 : w1.heap.size ≤ v2.heap.size := X2.out.size
    have Ev2 : Hid (Ex w v2) := Lib.hid (Ew1.out.chg X2.out (by omega))
    clear qX0 qX1 qX2 qX3 jX
    replace KX : Hid (Blk v2 (w0.heap.size) 30 [.int .i64 t.count, .int .i64 t.next, .int .i64 t.round, .slice A0 t.owns.length c0]) := Lib.hid (KX.out.chg X2.out (by omega))
    replace HF0 := Lib.hid (HF0.out.chg X2.out WHF0.out (by omega))
    replace HFZ := Lib.hid (HFZ.out.chg X2.out WHFZ.out (by omega))
    replace HF1 := Lib.hid (HF1.out.chg X2.out WHF1.out (by omega))
    have KD : Hid (Blk v2 (w1.heap.size) 30 [.int .i64 u.count, .int .i64 u.next, .int .i64 u.round, .slice A1 u.owns.length c1]) := Lib.hid (by rw [hv2]; repeat' (first | with_reducible exact Blk.new_at _ _ _ (by simp) | with_reducible refine Blk.alloc ?_ _ | with_reducible refine Blk.drew ?_ | with_reducible refine Blk.far ?_ (by simp; omega) _))
    have lD : w1.heap.size < v2.heap.size := KD.out.lt
    clear hv2
    refine (C2.out A0 Z0 c0 d0 _ HF0.out.rd HFZ.out.rd hn HF0.out.le HF0.out.cap hzn).mono ?_; rintro r w2 ⟨A2, c2, rfl, hf2, hb2⟩
    have Y2 : Hid (Chg 0 0 v2 w2) := Lib.hid (Chg.of_ex hb2)
    have s2 : v2.heap.size ≤ w2.heap.size := Y2.out.size
    have Ew2 : Hid (Ex w w2) := Lib.hid (Ev2.out.chg Y2.out (by omega))
    clear hb2
    replace KX : Hid (Blk w2 (w0.heap.size) 30 [.int .i64 t.count, .int .i64 t.next, .int .i64 t.round, .slice A0 t.owns.length c0]) := Lib.hid (KX.out.chg Y2.out (by omega))
    replace KD : Hid (Blk w2 (w1.heap.size) 30 [.int .i64 u.count, .int .i64 u.next, .int .i64 u.round, .slice A1 u.owns.length c1]) := Lib.hid (KD.out.chg Y2.out (by omega))
    replace HF0 := Lib.hid (HF0.out.chg Y2.out WHF0.out (by omega))
    replace HFZ := Lib.hid (HFZ.out.chg Y2.out WHFZ.out (by omega))
    replace HF1 := Lib.hid (HF1.out.chg Y2.out WHF1.out (by omega))
    have HF2 := Lib.hid hf2; clear hf2
    have WHF2 := Lib.hid HF2.out.row
    obtain ⟨qX0, qX1, qX2, qX3⟩ := KX.out.c4
    have jX := KX.out.lt
    obtain ⟨qD0, qD1, qD2, qD3⟩ := KD.out.c4
    have jD := KD.out.lt
    go_wp2_with fail
    refine name_calls ?_; intro v3 hv3
    have X3 : Hid (Chg (0) (0) w2 v3) := Lib.hid (by rw [hv3]; repeat' (first | with_reducible exact Chg.refl _ _ _ | with_reducible refine Chg.alloc ?_ _ | with_reducible refine Chg.drew ?_ | with_reducible refine Chg.set ?_ (by omega) _))
    have t3 : w2.heap.size ≤ v3.heap.size := X3.out.size
    have Ev3 : Hid (Ex w v3) := Lib.hid (Ew2.out.chg X3.out (by omega))
    clear qX0 qX1 qX2 qX3 jX
    clear qD0 qD1 qD2 qD3 jD
    replace KX : Hid (Blk v3 (w0.heap.size) 30 [.int .i64 t.count, .int .i64 t.next, .int .i64 t.round, .slice A0 t.owns.length c0]) := Lib.hid (KX.out.chg X3.out (by omega))
    replace KD : Hid (Blk v3 (w1.heap.size) 30 [.int .i64 u.count, .int .i64 u.next, .int .i64 u.round, .slice A1 u.owns.length c1]) := Lib.hid (KD.out.chg X3.out (by omega))
    replace HF0 := Lib.hid (HF0.out.chg X3.out WHF0.out (by omega))
    replace HFZ := Lib.hid (HFZ.out.chg X3.out WHFZ.out (by omega))
    replace HF1 := Lib.hid (HF1.out.chg X3.out WHF1.out (by omega))
    replace HF2 := Lib.hid (HF2.out.chg X3.out WHF2.out (by omega))
    have KW : Hid (Blk v3 (w2.heap.size) 30 [.int .i64 u.count, .int .i64 u.next, .int .i64 u.round, .slice A2 u.owns.length c2]) := Lib.hid (by rw [hv3]; repeat' (first | with_reducible exact Blk.new_at _ _ _ (by simp) | with_reducible refine Blk.alloc ?_ _ | with_reducible refine Blk.drew ?_ | with_reducible refine Blk.far ?_ (by simp; omega) _))
    have lW : w2.heap.size < v3.heap.size := KW.out.lt
    clear hv3
    refine (tagsSameI_c u u _ _ _ _ _ HF1.out.rd HF2.out.rd hfew hfew).mono ?_; rintro r w3 ⟨rfl, hb3⟩
    have Y3 : Hid (Chg 0 0 v3 w3) := Lib.hid (Chg.of_ex hb3)
    have s3 : v3.heap.size ≤ w3.heap.size := Y3.out.size
    have Ew3 : Hid (Ex w w3) := Lib.hid (Ev3.out.chg Y3.out (by omega))
    clear hb3
    replace KX : Hid (Blk w3 (w0.heap.size) 30 [.int .i64 t.count, .int .i64 t.next, .int .i64 t.round, .slice A0 t.owns.length c0]) := Lib.hid (KX.out.chg Y3.out (by omega))
    replace KD : Hid (Blk w3 (w1.heap.size) 30 [.int .i64 u.count, .int .i64 u.next, .int .i64 u.round, .slice A1 u.owns.length c1]) := Lib.hid (KD.out.chg Y3.out (by omega))
    replace KW : Hid (Blk w3 (w2.heap.size) 30 [.int .i64 u.count, .int .i64 u.next, .int .i64 u.round, .slice A2 u.owns.length c2]) := Lib.hid (KW.out.chg Y3.out (by omega))
    replace HF0 := Lib.hid (HF0.out.chg Y3.out WHF0.out (by omega))
    replace HFZ := Lib.hid (HFZ.out.chg Y3.out WHFZ.out (by omega))
    replace HF1 := Lib.hid (HF1.out.chg Y3.out WHF1.out (by omega))
    replace HF2 := Lib.hid (HF2.out.chg Y3.out WHF2.out (by omega))
    obtain ⟨qX0, qX1, qX2, qX3⟩ := KX.out.c4
    have jX := KX.out.lt
    obtain ⟨qD0, qD1, qD2, qD3⟩ := KD.out.c4
    have jD := KD.out.lt
    obtain ⟨qW0, qW1, qW2, qW3⟩ := KW.out.c4
    have jW := KW.out.lt
    rw [eqB_self]
    go_wp2_with fail
    refine name_calls ?_; intro v4 hv4
    have X4 : Hid (Chg (0) (0) w3 v4) := Lib.hid (by rw [hv4]; repeat' (first | with_reducible exact Chg.refl _ _ _ | with_reducible refine Chg.alloc ?_ _ | with_reducible refine Chg.drew ?_ | with_reducible refine Chg.set ?_ (by omega) _))
    have t4 : w3.heap.size ≤ v4.heap.size := X4.out.size
    have Ev4 : Hid (Ex w v4) := Lib.hid (Ew3.out.chg X4.out (by omega))
    clear qX0 qX1 qX2 qX3 jX
    clear qD0 qD1 qD2 qD3 jD
    clear qW0 qW1 qW2 qW3 jW
    replace KX : Hid (Blk v4 (w0.heap.size) 30 [.int .i64 t.count, .int .i64 t.next, .int .i64 t.round, .slice A0 t.owns.length c0]) := Lib.hid (KX.out.chg X4.out (by omega))
    replace KD : Hid (Blk v4 (w1.heap.size) 30 [.int .i64 u.count, .int .i64 u.next, .int .i64 u.round, .slice A1 u.owns.length c1]) := Lib.hid (KD.out.chg X4.out (by omega))
    replace KW : Hid (Blk v4 (w2.heap.size) 30 [.int .i64 u.count, .int .i64 u.next, .int .i64 u.round, .slice A2 u.owns.length c2]) := Lib.hid (KW.out.chg X4.out (by omega))
    replace HF0 := Lib.hid (HF0.out.chg X4.out WHF0.out (by omega))
    replace HFZ := Lib.hid (HFZ.out.chg X4.out WHFZ.out (by omega))
    replace HF1 := Lib.hid (HF1.out.chg X4.out WHF1.out (by omega))
    replace HF2 := Lib.hid (HF2.out.chg X4.out WHF2.out (by omega))
    clear hv4
    refine (tagsSameI_c u u _ _ _ _ _ HF1.out.rd HF2.out.rd hfew hfew).mono ?_; rintro r w4 ⟨rfl, hb4⟩
    have Y4 : Hid (Chg 0 0 v4 w4) := Lib.hid (Chg.of_ex hb4)
    have s4 : v4.heap.size ≤ w4.heap.size := Y4.out.size
    have Ew4 : Hid (Ex w w4) := Lib.hid (Ev4.out.chg Y4.out (by omega))
    clear hb4
    replace KX : Hid (Blk w4 (w0.heap.size) 30 [.int .i64 t.count, .int .i64 t.next, .int .i64 t.round, .slice A0 t.owns.length c0]) := Lib.hid (KX.out.chg Y4.out (by omega))
    replace KD : Hid (Blk w4 (w1.heap.size) 30 [.int .i64 u.count, .int .i64 u.next, .int .i64 u.round, .slice A1 u.owns.length c1]) := Lib.hid (KD.out.chg Y4.out (by omega))
    replace KW : Hid (Blk w4 (w2.heap.size) 30 [.int .i64 u.count, .int .i64 u.next, .int .i64 u.round, .slice A2 u.owns.length c2]) := Lib.hid (KW.out.chg Y4.out (by omega))
    replace HF0 := Lib.hid (HF0.out.chg Y4.out WHF0.out (by omega))
    replace HFZ := Lib.hid (HFZ.out.chg Y4.out WHFZ.out (by omega))
    replace HF1 := Lib.hid (HF1.out.chg Y4.out WHF1.out (by omega))
    replace HF2 := Lib.hid (HF2.out.chg Y4.out WHF2.out (by omega))
    obtain ⟨qX0, qX1, qX2, qX3⟩ := KX.out.c4
    have jX := KX.out.lt
    obtain ⟨qD0, qD1, qD2, qD3⟩ := KD.out.c4
    have jD := KD.out.lt
    obtain ⟨qW0, qW1, qW2, qW3⟩ := KW.out.c4
    have jW := KW.out.lt
    rw [eqB_self]
    go_wp2
    go_ret
    exact ⟨rfl, (by repeat' (first | with_reducible exact Ew4.out | with_reducible refine Ex.alloc ?_ _ | with_reducible refine Ex.drew ?_ | with_reducible refine Ex.put ?_ (by omega) _))⟩
  obtain ⟨k, hk⟩ : ∃ k, k = zs.length / 2 := ⟨_, rfl⟩
  obtain ⟨a, mm, m2, e7, e8, hmm, hvu, hrr⟩ := HLAW.out u rr rfl k (by omega)
  obtain ⟨hb1, hb2, hb3, hb4⟩ := HBD.out u rr rfl
  have ha20 : a.owns.length ≤ 1048576 := by have := takeTags_few t (zs.take k); rw [e7] at this; dsimp only at this; omega
  have HL1 : Hid ((zs.take k).length = k) := Lib.hid (by rw [List.length_take]; omega)
  have HL2 : Hid ((zs.drop k).length = zs.length - k) := Lib.hid (by rw [List.length_drop])
  have C7 := takeTagsI_c t (zs.take k)
  have C8 := takeTagsI_c a (zs.drop k)
  rw [e7] at C7
  rw [e8] at C8
  have RDLT : Hid (∀ (w' : World) (A : Option Addr), Rd w' A zs → Rd w' A (zs.take k)) := Lib.hid (fun w' A h => h.take k)
  have RDLD : Hid (∀ (w' : World) (b o : Nat), Rd w' (some ⟨b, o, none⟩) zs → Rd w' (some ⟨b, o + k, none⟩) (zs.drop k)) := Lib.hid (fun w' b o h => Rd.dropI h)
  have RDLN : Hid (zs.length = 0 → zs.drop k = []) := Lib.hid (fun h => List.eq_nil_of_length_eq_zero (by rw [List.length_drop]; omega))
  generalize zs.take k = L1 at C7 HL1 RDLT
  generalize zs.drop k = L2 at C8 HL2 RDLD RDLN
  have hl1 := HL1.out
  have hl2 := HL2.out
  rw [hl1] at C7
  rw [hl2] at C8
  dsimp only at C7 C8
  replace C7 := Lib.hid C7
  replace C8 := Lib.hid C8
  have hk20 : k ≤ 1048576 := by omega
  have hk21 : zs.length - k ≤ 1048576 := by omega
  have hq2 : ((zs.length : Int) / 2).toNat = k := by omega
  have hq3 : (0 : Int) ≤ (zs.length : Int) / 2 := by omega
  have hq4 : (zs.length : Int) / 2 ≤ (zs.length : Int) := by omega
  have hkz : (k : Int) ≤ (zs.length : Int) := by omega
  have hk0 : (0 : Int) ≤ (k : Int) := by omega
  have hmb : IntKind.i64.wrap (mm + m2) = rr := by rw [hmm]; exact IntWalk.i64_in _ (by omega)
  have hrb : IntKind.i64.wrap (t.round + rr) = t.round + rr := IntWalk.i64_in _ (by omega)
  have hx1 : (mm + m2 == rr) = true := by simp [hmm]
  have hx2 : (u.round == t.round + rr) = true := by simp [hrr]
  clear e7 e8 HLAW HBD hmm hrr hl1 hl2
  subst hk
  go_wp2_with fail
  refine name_calls ?_; intro v1 hv1
  have X1 : Hid (Chg (0) (0) w0 v1) := Lib.hid (by rw [hv1]; repeat' (first | with_reducible exact Chg.refl _ _ _ | with_reducible refine Chg.alloc ?_ _ | with_reducible refine Chg.drew ?_ | with_reducible refine Chg.set ?_ (by omega) _))
  have t1 : w0.heap.size ≤ v1.heap.size := X1.out.size
  have Ev1 : Hid (Ex w v1) := Lib.hid (Ew0.out.chg X1.out (by omega))
  replace HF0 := Lib.hid (HF0.out.chg X1.out WHF0.out (by omega))
  replace HFZ := Lib.hid (HFZ.out.chg X1.out WHFZ.out (by omega))
  have KX : Hid (Blk v1 (w0.heap.size) 30 [.int .i64 t.count, .int .i64 t.next, .int .i64 t.round, .slice A0 t.owns.length c0]) := Lib.hid (by rw [hv1]; repeat' (first | with_reducible exact Blk.new_at _ _ _ (by simp) | with_reducible refine Blk.alloc ?_ _ | with_reducible refine Blk.drew ?_ | with_reducible refine Blk.far ?_ (by simp; omega) _))
  have lX : w0.heap.size < v1.heap.size := KX.out.lt
  clear hv1
  refine (C1.out A0 Z0 c0 d0 _ HF0.out.rd HFZ.out.rd hn HF0.out.le HF0.out.cap hzn).mono ?_; rintro r w1 ⟨A1, c1, rfl, hf1, hb1⟩
  have Y1 : Hid (Chg 0 0 v1 w1) := Lib.hid (Chg.of_ex hb1)
  have s1 : v1.heap.size ≤ w1.heap.size := Y1.out.size
  have Ew1 : Hid (Ex w w1) := Lib.hid (Ev1.out.chg Y1.out (by omega))
  clear hb1
  replace KX : Hid (Blk w1 (w0.heap.size) 30 [.int .i64 t.count, .int .i64 t.next, .int .i64 t.round, .slice A0 t.owns.length c0]) := Lib.hid (KX.out.chg Y1.out (by omega))
  replace HF0 := Lib.hid (HF0.out.chg Y1.out WHF0.out (by omega))
  replace HFZ := Lib.hid (HFZ.out.chg Y1.out WHFZ.out (by omega))
  have HF1 := Lib.hid hf1; clear hf1
  have WHF1 := Lib.hid HF1.out.row
  obtain ⟨qX0, qX1, qX2, qX3⟩ := KX.out.c4
  have jX := KX.out.lt
  go_wp2_with fail
  refine name_calls ?_; intro v2 hv2
  have X2 : Hid (Chg (0) (0) w1 v2) := Lib.hid (by rw [hv2]; repeat' (first | with_reducible exact Chg.refl _ _ _ | with_reducible refine Chg.alloc ?_ _ | with_reducible refine Chg.drew ?_ | with_reducible refine Chg.set ?_ (by omega) _))
  have t2 : w1.heap.size ≤ v2.heap.size := X2.out.size
  have Ev2 : Hid (Ex w v2) := Lib.hid (Ew1.out.chg X2.out (by omega))
  clear qX0 qX1 qX2 qX3 jX
  replace KX : Hid (Blk v2 (w0.heap.size) 30 [.int .i64 t.count, .int .i64 t.next, .int .i64 t.round, .slice A0 t.owns.length c0]) := Lib.hid (KX.out.chg X2.out (by omega))
  replace HF0 := Lib.hid (HF0.out.chg X2.out WHF0.out (by omega))
  replace HFZ := Lib.hid (HFZ.out.chg X2.out WHFZ.out (by omega))
  replace HF1 := Lib.hid (HF1.out.chg X2.out WHF1.out (by omega))
  have KD : Hid (Blk v2 (w1.heap.size) 30 [.int .i64 u.count, .int .i64 u.next, .int .i64 u.round, .slice A1 u.owns.length c1]) := Lib.hid (by rw [hv2]; repeat' (first | with_reducible exact Blk.new_at _ _ _ (by simp) | with_reducible refine Blk.alloc ?_ _ | with_reducible refine Blk.drew ?_ | with_reducible refine Blk.far ?_ (by simp; omega) _))
  have lD : w1.heap.size < v2.heap.size := KD.out.lt
  clear hv2
  refine (C2.out A0 Z0 c0 d0 _ HF0.out.rd HFZ.out.rd hn HF0.out.le HF0.out.cap hzn).mono ?_; rintro r w2 ⟨A2, c2, rfl, hf2, hb2⟩
  have Y2 : Hid (Chg 0 0 v2 w2) := Lib.hid (Chg.of_ex hb2)
  have s2 : v2.heap.size ≤ w2.heap.size := Y2.out.size
  have Ew2 : Hid (Ex w w2) := Lib.hid (Ev2.out.chg Y2.out (by omega))
  clear hb2
  replace KX : Hid (Blk w2 (w0.heap.size) 30 [.int .i64 t.count, .int .i64 t.next, .int .i64 t.round, .slice A0 t.owns.length c0]) := Lib.hid (KX.out.chg Y2.out (by omega))
  replace KD : Hid (Blk w2 (w1.heap.size) 30 [.int .i64 u.count, .int .i64 u.next, .int .i64 u.round, .slice A1 u.owns.length c1]) := Lib.hid (KD.out.chg Y2.out (by omega))
  replace HF0 := Lib.hid (HF0.out.chg Y2.out WHF0.out (by omega))
  replace HFZ := Lib.hid (HFZ.out.chg Y2.out WHFZ.out (by omega))
  replace HF1 := Lib.hid (HF1.out.chg Y2.out WHF1.out (by omega))
  have HF2 := Lib.hid hf2; clear hf2
  have WHF2 := Lib.hid HF2.out.row
  obtain ⟨qX0, qX1, qX2, qX3⟩ := KX.out.c4
  have jX := KX.out.lt
  obtain ⟨qD0, qD1, qD2, qD3⟩ := KD.out.c4
  have jD := KD.out.lt
  go_wp2_with fail
  refine name_calls ?_; intro v3 hv3
  have X3 : Hid (Chg (0) (0) w2 v3) := Lib.hid (by rw [hv3]; repeat' (first | with_reducible exact Chg.refl _ _ _ | with_reducible refine Chg.alloc ?_ _ | with_reducible refine Chg.drew ?_ | with_reducible refine Chg.set ?_ (by omega) _))
  have t3 : w2.heap.size ≤ v3.heap.size := X3.out.size
  have Ev3 : Hid (Ex w v3) := Lib.hid (Ew2.out.chg X3.out (by omega))
  clear qX0 qX1 qX2 qX3 jX
  clear qD0 qD1 qD2 qD3 jD
  replace KX : Hid (Blk v3 (w0.heap.size) 30 [.int .i64 t.count, .int .i64 t.next, .int .i64 t.round, .slice A0 t.owns.length c0]) := Lib.hid (KX.out.chg X3.out (by omega))
  replace KD : Hid (Blk v3 (w1.heap.size) 30 [.int .i64 u.count, .int .i64 u.next, .int .i64 u.round, .slice A1 u.owns.length c1]) := Lib.hid (KD.out.chg X3.out (by omega))
  replace HF0 := Lib.hid (HF0.out.chg X3.out WHF0.out (by omega))
  replace HFZ := Lib.hid (HFZ.out.chg X3.out WHFZ.out (by omega))
  replace HF1 := Lib.hid (HF1.out.chg X3.out WHF1.out (by omega))
  replace HF2 := Lib.hid (HF2.out.chg X3.out WHF2.out (by omega))
  have KW : Hid (Blk v3 (w2.heap.size) 30 [.int .i64 u.count, .int .i64 u.next, .int .i64 u.round, .slice A2 u.owns.length c2]) := Lib.hid (by rw [hv3]; repeat' (first | with_reducible exact Blk.new_at _ _ _ (by simp) | with_reducible refine Blk.alloc ?_ _ | with_reducible refine Blk.drew ?_ | with_reducible refine Blk.far ?_ (by simp; omega) _))
  have lW : w2.heap.size < v3.heap.size := KW.out.lt
  clear hv3
  refine (tagsSameI_c u u _ _ _ _ _ HF1.out.rd HF2.out.rd hfew hfew).mono ?_; rintro r w3 ⟨rfl, hb3⟩
  have Y3 : Hid (Chg 0 0 v3 w3) := Lib.hid (Chg.of_ex hb3)
  have s3 : v3.heap.size ≤ w3.heap.size := Y3.out.size
  have Ew3 : Hid (Ex w w3) := Lib.hid (Ev3.out.chg Y3.out (by omega))
  clear hb3
  replace KX : Hid (Blk w3 (w0.heap.size) 30 [.int .i64 t.count, .int .i64 t.next, .int .i64 t.round, .slice A0 t.owns.length c0]) := Lib.hid (KX.out.chg Y3.out (by omega))
  replace KD : Hid (Blk w3 (w1.heap.size) 30 [.int .i64 u.count, .int .i64 u.next, .int .i64 u.round, .slice A1 u.owns.length c1]) := Lib.hid (KD.out.chg Y3.out (by omega))
  replace KW : Hid (Blk w3 (w2.heap.size) 30 [.int .i64 u.count, .int .i64 u.next, .int .i64 u.round, .slice A2 u.owns.length c2]) := Lib.hid (KW.out.chg Y3.out (by omega))
  replace HF0 := Lib.hid (HF0.out.chg Y3.out WHF0.out (by omega))
  replace HFZ := Lib.hid (HFZ.out.chg Y3.out WHFZ.out (by omega))
  replace HF1 := Lib.hid (HF1.out.chg Y3.out WHF1.out (by omega))
  replace HF2 := Lib.hid (HF2.out.chg Y3.out WHF2.out (by omega))
  obtain ⟨qX0, qX1, qX2, qX3⟩ := KX.out.c4
  have jX := KX.out.lt
  obtain ⟨qD0, qD1, qD2, qD3⟩ := KD.out.c4
  have jD := KD.out.lt
  obtain ⟨qW0, qW1, qW2, qW3⟩ := KW.out.c4
  have jW := KW.out.lt
  rw [eqB_self]
  clear qW0 qW1 qW2 qW3 jW
  clear KW
  clear HF2 WHF2
  have hle0 := HF0.out.le
  have hca0 := HF0.out.cap
  have hdz := HFZ.out.le
  have hkd : (zs.length : Int) / 2 ≤ (d0 : Int) := by omega
  have RDT : Hid (∀ w', Ex w3 w' → Rd w' A0 t.owns) := Lib.hid (fun w' h => HF0.out.rd.ex h)
  have RDZ : Hid (∀ w', Ex w3 w' → Rd w' Z0 zs) := Lib.hid (fun w' h => HFZ.out.rd.ex h)
  have RDL1 : Hid (∀ w', Ex w3 w' → Rd w' Z0 L1) := Lib.hid (fun w' h => RDLT.out w' Z0 (RDZ.out w' h))
  by_cases hz0 : zs.length = 0
  · obtain rfl : zs = [] := List.eq_nil_of_length_eq_zero hz0
    obtain rfl : L1 = [] := List.eq_nil_of_length_eq_zero (by simpa using HL1.out)
    obtain rfl := RDLN.out rfl
    simp only [List.length_nil, Nat.zero_div, Nat.zero_sub] at C7 C8 hk20 hk21
    clear hq2 hq3 hq4 hkd hkz hk0 RDLT RDLD RDLN RDZ RDL1 HL1 HL2 hz0
    have FK5 : Hid (∀ w', Ex w3 w' → (w'.cell? ⟨w0.heap.size, 0, none⟩ = some (.int .i64 t.count) ∧ w'.cell? ⟨w0.heap.size, 1, none⟩ = some (.int .i64 t.next) ∧ w'.cell? ⟨w0.heap.size, 2, none⟩ = some (.int .i64 t.round) ∧ w'.cell? ⟨w0.heap.size, 3, none⟩ = some (.slice A0 t.owns.length c0))) := Lib.hid (fun w' h => (KX.out.ex h).c4)
    go_wp2_with fail
    go_region_held3 (fun w' => (w'.cell? ⟨w0.heap.size, 0, none⟩ = some (.int .i64 t.count) ∧ w'.cell? ⟨w0.heap.size, 1, none⟩ = some (.int .i64 t.next) ∧ w'.cell? ⟨w0.heap.size, 2, none⟩ = some (.int .i64 t.round) ∧ w'.cell? ⟨w0.heap.size, 3, none⟩ = some (.slice A0 t.owns.length c0))) ((refine FK5.out _ ?_; with_reducible (first | exact Ex.refl _ | exact (Ex.refl _).drew | exact ((Ex.refl _).alloc _).drew | exact hba5 | exact hba5.alloc _ | exact Ex.set (Ex.set (Ex.set (Ex.set hba5 (Nat.le_refl _) _) (Nat.le_refl _) _) (Nat.le_refl _) _) (Nat.le_refl _) _))) (first | (go_at_call 31; (with_reducible refine (C7.out A0 _ c0 _ _ ?_ ?_ hn hle0 hca0 hk20).mono ?_); (first | with_reducible exact RDT.out _ (Ex.refl _).drew | with_reducible exact RDT.out _ ((Ex.refl _).alloc _).drew); (exact Rd.nil _ _); rintro r w5 ⟨A5, c5, rfl, hf5, hb5⟩; (first | (with_reducible (have hba5 : Ex w3 w5 := (Ex.refl _).drew.trans hb5)) | (with_reducible (have hba5 : Ex w3 w5 := ((Ex.refl _).alloc _).drew.trans hb5); have hz : Blk w5 w3.heap.size 30 [.int .i64 0, .int .i64 0, .int .i64 0, .slice none 0 0] := Blk.ex (Blk.drew (Blk.new w3 30 [.int .i64 0, .int .i64 0, .int .i64 0, .slice none 0 0])) hb5; obtain ⟨hz0, hz1, hz2, hz3⟩ := hz.c4; have hzf := hz.frozen; have hzl := hz.lt))))
    all_goals
      rename_i hHeld
      clear hHeld
      first
      | (obtain ⟨wN5, hwN⟩ : ∃ wN : World, wN = w5.alloc (.cells #[.int .i64 a.count, .int .i64 a.next, .int .i64 a.round, .slice A5 a.owns.length c5] 30) := ⟨_, rfl⟩
         have KN5 : Hid (Blk wN5 w5.heap.size 30 [.int .i64 a.count, .int .i64 a.next, .int .i64 a.round, .slice A5 a.owns.length c5]) := Lib.hid (by rw [hwN]; exact Blk.new _ _ _)
         have EE5 : Hid (Ex w3 wN5) := Lib.hid (by rw [hwN]; exact hba5.alloc _)
         have HF5 : Hid (Fr 49 wN5 w3.heap.size A5 c5 a.owns) := Lib.hid (by rw [hwN]; exact (Fr.mono hf5 (by simp)).alloc _)
         obtain ⟨gN5, hgN⟩ : ∃ gN, gN = w5.heap.size := ⟨_, rfl⟩
         rw [← hgN] at KN5
         rw [← hwN, ← hgN]
         clear hwN hgN)
      | (obtain ⟨wN5, hwN⟩ : ∃ wN : World, wN = (((w5.setCell ⟨w3.heap.size, 0, none⟩ (.int .i64 a.count)).setCell ⟨w3.heap.size, 1, none⟩ (.int .i64 a.next)).setCell ⟨w3.heap.size, 2, none⟩ (.int .i64 a.round)).setCell ⟨w3.heap.size, 3, none⟩ (.slice A5 a.owns.length c5) := ⟨_, rfl⟩
         have KN5 : Hid (Blk wN5 w3.heap.size 30 [.int .i64 a.count, .int .i64 a.next, .int .i64 a.round, .slice A5 a.owns.length c5]) := Lib.hid (by rw [hwN]; exact Blk.put4 hz)
         have EE5 : Hid (Ex w3 wN5) := Lib.hid (by rw [hwN]; exact (((hba5.set (Nat.le_refl _) _).set (Nat.le_refl _) _).set (Nat.le_refl _) _).set (Nat.le_refl _) _)
         have HF5 : Hid (Fr 49 wN5 w3.heap.size A5 c5 a.owns) := Lib.hid (by
           rw [hwN]
           refine Fr.mono (B := w3.heap.size + 1) ?_ (by omega)
           have hf6 : Fr 49 w5 (w3.heap.size + 1) A5 c5 a.owns := Fr.mono hf5 (by simp)
           exact (((hf6.set_below (by simp) _).set_below (by simp) _).set_below (by simp) _).set_below (by simp) _)
         obtain ⟨gN5, hgN⟩ : ∃ gN, gN = w3.heap.size := ⟨_, rfl⟩
         rw [← hgN] at KN5
         rw [← hwN, ← hgN]
         clear hwN hgN hz hz0 hz1 hz2 hz3 hzf hzl)
      clear hf5 hb5 hba5 FK5
      have RDA : Hid (∀ w', Ex wN5 w' → Rd w' A5 a.owns) := Lib.hid (fun w' h => HF5.out.rd.ex h)
      have hle5 := HF5.out.le
      have hca5 := HF5.out.cap
      obtain ⟨qa0, qa1, qa2, qa3⟩ := KN5.out.c4
      have ja := KN5.out.lt
      have FK6 : Hid (∀ w', Ex wN5 w' → (w'.cell? ⟨gN5, 0, none⟩ = some (.int .i64 a.count) ∧ w'.cell? ⟨gN5, 1, none⟩ = some (.int .i64 a.next) ∧ w'.cell? ⟨gN5, 2, none⟩ = some (.int .i64 a.round) ∧ w'.cell? ⟨gN5, 3, none⟩ = some (.slice A5 a.owns.length c5))) := Lib.hid (fun w' h => (KN5.out.ex h).c4)
      go_wp2_with fail
      go_region_held3 (fun w' => (w'.cell? ⟨gN5, 0, none⟩ = some (.int .i64 a.count) ∧ w'.cell? ⟨gN5, 1, none⟩ = some (.int .i64 a.next) ∧ w'.cell? ⟨gN5, 2, none⟩ = some (.int .i64 a.round) ∧ w'.cell? ⟨gN5, 3, none⟩ = some (.slice A5 a.owns.length c5))) ((refine FK6.out _ ?_; with_reducible (first | exact Ex.refl _ | exact (Ex.refl _).drew | exact ((Ex.refl _).alloc _).drew | exact hba6 | exact hba6.alloc _ | exact Ex.set (Ex.set (Ex.set (Ex.set hba6 (Nat.le_refl _) _) (Nat.le_refl _) _) (Nat.le_refl _) _) (Nat.le_refl _) _))) (first | (go_at_call 31; (with_reducible refine (C8.out A5 _ c5 _ _ ?_ ?_ ha20 hle5 hca5 hk21).mono ?_); (first | with_reducible exact RDA.out _ (Ex.refl _).drew | with_reducible exact RDA.out _ ((Ex.refl _).alloc _).drew); (exact Rd.nil _ _); rintro r w6 ⟨A6, c6, rfl, hf6, hb6⟩; (first | (with_reducible (have hba6 : Ex wN5 w6 := (Ex.refl _).drew.trans hb6)) | (with_reducible (have hba6 : Ex wN5 w6 := ((Ex.refl _).alloc _).drew.trans hb6); have hz : Blk w6 wN5.heap.size 30 [.int .i64 0, .int .i64 0, .int .i64 0, .slice none 0 0] := Blk.ex (Blk.drew (Blk.new wN5 30 [.int .i64 0, .int .i64 0, .int .i64 0, .slice none 0 0])) hb6; obtain ⟨hz0, hz1, hz2, hz3⟩ := hz.c4; have hzf := hz.frozen; have hzl := hz.lt))))
      all_goals
        rename_i hHeld
        clear hHeld
        first
        | (obtain ⟨wN6, hwN⟩ : ∃ wN : World, wN = w6.alloc (.cells #[.int .i64 u.count, .int .i64 u.next, .int .i64 u.round, .slice A6 u.owns.length c6] 30) := ⟨_, rfl⟩
           have KN6 : Hid (Blk wN6 w6.heap.size 30 [.int .i64 u.count, .int .i64 u.next, .int .i64 u.round, .slice A6 u.owns.length c6]) := Lib.hid (by rw [hwN]; exact Blk.new _ _ _)
           have EE6 : Hid (Ex wN5 wN6) := Lib.hid (by rw [hwN]; exact hba6.alloc _)
           have HF6 : Hid (Fr 49 wN6 wN5.heap.size A6 c6 u.owns) := Lib.hid (by rw [hwN]; exact (Fr.mono hf6 (by simp)).alloc _)
           obtain ⟨gN6, hgN⟩ : ∃ gN, gN = w6.heap.size := ⟨_, rfl⟩
           rw [← hgN] at KN6
           rw [← hwN, ← hgN]
           clear hwN hgN)
        | (obtain ⟨wN6, hwN⟩ : ∃ wN : World, wN = (((w6.setCell ⟨wN5.heap.size, 0, none⟩ (.int .i64 u.count)).setCell ⟨wN5.heap.size, 1, none⟩ (.int .i64 u.next)).setCell ⟨wN5.heap.size, 2, none⟩ (.int .i64 u.round)).setCell ⟨wN5.heap.size, 3, none⟩ (.slice A6 u.owns.length c6) := ⟨_, rfl⟩
           have KN6 : Hid (Blk wN6 wN5.heap.size 30 [.int .i64 u.count, .int .i64 u.next, .int .i64 u.round, .slice A6 u.owns.length c6]) := Lib.hid (by rw [hwN]; exact Blk.put4 hz)
           have EE6 : Hid (Ex wN5 wN6) := Lib.hid (by rw [hwN]; exact (((hba6.set (Nat.le_refl _) _).set (Nat.le_refl _) _).set (Nat.le_refl _) _).set (Nat.le_refl _) _)
           have HF6 : Hid (Fr 49 wN6 wN5.heap.size A6 c6 u.owns) := Lib.hid (by
             rw [hwN]
             refine Fr.mono (B := wN5.heap.size + 1) ?_ (by omega)
             have hf6 : Fr 49 w6 (wN5.heap.size + 1) A6 c6 u.owns := Fr.mono hf6 (by simp)
             exact (((hf6.set_below (by simp) _).set_below (by simp) _).set_below (by simp) _).set_below (by simp) _)
           obtain ⟨gN6, hgN⟩ : ∃ gN, gN = wN5.heap.size := ⟨_, rfl⟩
           rw [← hgN] at KN6
           rw [← hwN, ← hgN]
           clear hwN hgN hz hz0 hz1 hz2 hz3 hzf hzl)
        clear hf6 hb6 hba6 FK6
        have EE : Hid (Ex w3 wN6) := Lib.hid (EE5.out.trans EE6.out)
        have Y7 : Hid (Chg 0 0 w3 wN6) := Lib.hid (Chg.of_ex EE.out)
        clear qa0 qa1 qa2 qa3 ja RDA
        have s7 : w3.heap.size ≤ wN6.heap.size := Y7.out.size
        have EwN6 : Hid (Ex w wN6) := Lib.hid (Ew3.out.chg Y7.out (by omega))
        clear qX0 qX1 qX2 qX3 jX
        clear qD0 qD1 qD2 qD3 jD
        replace KX : Hid (Blk wN6 (w0.heap.size) 30 [.int .i64 t.count, .int .i64 t.next, .int .i64 t.round, .slice A0 t.owns.length c0]) := Lib.hid (KX.out.chg Y7.out (by omega))
        replace KD : Hid (Blk wN6 (w1.heap.size) 30 [.int .i64 u.count, .int .i64 u.next, .int .i64 u.round, .slice A1 u.owns.length c1]) := Lib.hid (KD.out.chg Y7.out (by omega))
        replace HF0 := Lib.hid (HF0.out.chg Y7.out WHF0.out (by omega))
        replace HFZ := Lib.hid (HFZ.out.chg Y7.out WHFZ.out (by omega))
        replace HF1 := Lib.hid (HF1.out.chg Y7.out WHF1.out (by omega))
        obtain ⟨qX0, qX1, qX2, qX3⟩ := KX.out.c4
        have jX := KX.out.lt
        obtain ⟨qD0, qD1, qD2, qD3⟩ := KD.out.c4
        have jD := KD.out.lt
        have KN := KN6
        obtain ⟨qN0, qN1, qN2, qN3⟩ := KN.out.c4
        have jN := KN.out.lt
        have WHF6 := Lib.hid HF6.out.row
        go_wp2_with fail
        refine name_calls ?_; intro v8 hv8
        have X8 : Hid (Chg (0) (0) wN6 v8) := Lib.hid (by rw [hv8]; repeat' (first | with_reducible exact Chg.refl _ _ _ | with_reducible refine Chg.alloc ?_ _ | with_reducible refine Chg.drew ?_ | with_reducible refine Chg.set ?_ (by omega) _))
        have t8 : wN6.heap.size ≤ v8.heap.size := X8.out.size
        have Ev8 : Hid (Ex w v8) := Lib.hid (EwN6.out.chg X8.out (by omega))
        clear qX0 qX1 qX2 qX3 jX
        clear qD0 qD1 qD2 qD3 jD
        clear qN0 qN1 qN2 qN3 jN
        replace KX : Hid (Blk v8 (w0.heap.size) 30 [.int .i64 t.count, .int .i64 t.next, .int .i64 t.round, .slice A0 t.owns.length c0]) := Lib.hid (KX.out.chg X8.out (by omega))
        replace KD : Hid (Blk v8 (w1.heap.size) 30 [.int .i64 u.count, .int .i64 u.next, .int .i64 u.round, .slice A1 u.owns.length c1]) := Lib.hid (KD.out.chg X8.out (by omega))
        replace KN : Hid (Blk v8 (gN6) 30 [.int .i64 u.count, .int .i64 u.next, .int .i64 u.round, .slice A6 u.owns.length c6]) := Lib.hid (KN.out.chg X8.out (by omega))
        replace HF0 := Lib.hid (HF0.out.chg X8.out WHF0.out (by omega))
        replace HFZ := Lib.hid (HFZ.out.chg X8.out WHFZ.out (by omega))
        replace HF1 := Lib.hid (HF1.out.chg X8.out WHF1.out (by omega))
        replace HF6 := Lib.hid (HF6.out.chg X8.out WHF6.out (by omega))
        clear hv8
        refine (tagsValidI_c u A1 c1 _ HF1.out.rd hfew HF1.out.le).mono ?_; rintro r w8 ⟨rfl, hb8⟩
        have Y8 : Hid (Chg 0 0 v8 w8) := Lib.hid (Chg.of_ex hb8)
        have s8 : v8.heap.size ≤ w8.heap.size := Y8.out.size
        have Ew8 : Hid (Ex w w8) := Lib.hid (Ev8.out.chg Y8.out (by omega))
        clear hb8
        replace KX : Hid (Blk w8 (w0.heap.size) 30 [.int .i64 t.count, .int .i64 t.next, .int .i64 t.round, .slice A0 t.owns.length c0]) := Lib.hid (KX.out.chg Y8.out (by omega))
        replace KD : Hid (Blk w8 (w1.heap.size) 30 [.int .i64 u.count, .int .i64 u.next, .int .i64 u.round, .slice A1 u.owns.length c1]) := Lib.hid (KD.out.chg Y8.out (by omega))
        replace KN : Hid (Blk w8 (gN6) 30 [.int .i64 u.count, .int .i64 u.next, .int .i64 u.round, .slice A6 u.owns.length c6]) := Lib.hid (KN.out.chg Y8.out (by omega))
        replace HF0 := Lib.hid (HF0.out.chg Y8.out WHF0.out (by omega))
        replace HFZ := Lib.hid (HFZ.out.chg Y8.out WHFZ.out (by omega))
        replace HF1 := Lib.hid (HF1.out.chg Y8.out WHF1.out (by omega))
        replace HF6 := Lib.hid (HF6.out.chg Y8.out WHF6.out (by omega))
        obtain ⟨qX0, qX1, qX2, qX3⟩ := KX.out.c4
        have jX := KX.out.lt
        obtain ⟨qD0, qD1, qD2, qD3⟩ := KD.out.c4
        have jD := KD.out.lt
        obtain ⟨qN0, qN1, qN2, qN3⟩ := KN.out.c4
        have jN := KN.out.lt
        rw [hvu]
        go_wp2_with fail
        refine name_calls ?_; intro v9 hv9
        have X9 : Hid (Chg (0) (0) w8 v9) := Lib.hid (by rw [hv9]; repeat' (first | with_reducible exact Chg.refl _ _ _ | with_reducible refine Chg.alloc ?_ _ | with_reducible refine Chg.drew ?_ | with_reducible refine Chg.set ?_ (by omega) _))
        have t9 : w8.heap.size ≤ v9.heap.size := X9.out.size
        have Ev9 : Hid (Ex w v9) := Lib.hid (Ew8.out.chg X9.out (by omega))
        clear qX0 qX1 qX2 qX3 jX
        clear qD0 qD1 qD2 qD3 jD
        clear qN0 qN1 qN2 qN3 jN
        replace KX : Hid (Blk v9 (w0.heap.size) 30 [.int .i64 t.count, .int .i64 t.next, .int .i64 t.round, .slice A0 t.owns.length c0]) := Lib.hid (KX.out.chg X9.out (by omega))
        replace KD : Hid (Blk v9 (w1.heap.size) 30 [.int .i64 u.count, .int .i64 u.next, .int .i64 u.round, .slice A1 u.owns.length c1]) := Lib.hid (KD.out.chg X9.out (by omega))
        replace KN : Hid (Blk v9 (gN6) 30 [.int .i64 u.count, .int .i64 u.next, .int .i64 u.round, .slice A6 u.owns.length c6]) := Lib.hid (KN.out.chg X9.out (by omega))
        replace HF0 := Lib.hid (HF0.out.chg X9.out WHF0.out (by omega))
        replace HFZ := Lib.hid (HFZ.out.chg X9.out WHFZ.out (by omega))
        replace HF1 := Lib.hid (HF1.out.chg X9.out WHF1.out (by omega))
        replace HF6 := Lib.hid (HF6.out.chg X9.out WHF6.out (by omega))
        clear hv9
        refine (tagsSameI_c u u _ _ _ _ _ HF6.out.rd HF1.out.rd hfew hfew).mono ?_; rintro r w9 ⟨rfl, hb9⟩
        have Y9 : Hid (Chg 0 0 v9 w9) := Lib.hid (Chg.of_ex hb9)
        have s9 : v9.heap.size ≤ w9.heap.size := Y9.out.size
        have Ew9 : Hid (Ex w w9) := Lib.hid (Ev9.out.chg Y9.out (by omega))
        clear hb9
        replace KX : Hid (Blk w9 (w0.heap.size) 30 [.int .i64 t.count, .int .i64 t.next, .int .i64 t.round, .slice A0 t.owns.length c0]) := Lib.hid (KX.out.chg Y9.out (by omega))
        replace KD : Hid (Blk w9 (w1.heap.size) 30 [.int .i64 u.count, .int .i64 u.next, .int .i64 u.round, .slice A1 u.owns.length c1]) := Lib.hid (KD.out.chg Y9.out (by omega))
        replace KN : Hid (Blk w9 (gN6) 30 [.int .i64 u.count, .int .i64 u.next, .int .i64 u.round, .slice A6 u.owns.length c6]) := Lib.hid (KN.out.chg Y9.out (by omega))
        replace HF0 := Lib.hid (HF0.out.chg Y9.out WHF0.out (by omega))
        replace HFZ := Lib.hid (HFZ.out.chg Y9.out WHFZ.out (by omega))
        replace HF1 := Lib.hid (HF1.out.chg Y9.out WHF1.out (by omega))
        replace HF6 := Lib.hid (HF6.out.chg Y9.out WHF6.out (by omega))
        obtain ⟨qX0, qX1, qX2, qX3⟩ := KX.out.c4
        have jX := KX.out.lt
        obtain ⟨qD0, qD1, qD2, qD3⟩ := KD.out.c4
        have jD := KD.out.lt
        obtain ⟨qN0, qN1, qN2, qN3⟩ := KN.out.c4
        have jN := KN.out.lt
        rw [eqB_self]
        go_wp2
        go_ret
        exact ⟨rfl, (by repeat' (first | with_reducible exact Ew9.out | with_reducible refine Ex.alloc ?_ _ | with_reducible refine Ex.drew ?_ | with_reducible refine Ex.put ?_ (by omega) _))⟩
  obtain ⟨zb, zo, hZ, -, -⟩ := HFZ.out.rd (by omega)
  subst hZ
  have hdk : ¬ d0 = zs.length / 2 := by omega
  have RDL2 : Hid (∀ w', Ex w3 w' → Rd w' (some ⟨zb, zo + zs.length / 2, none⟩) L2) := Lib.hid (fun w' h => RDLD.out w' zb zo (RDZ.out w' h))
  clear RDLT RDLD RDLN RDZ hz0
  have FK5 : Hid (∀ w', Ex w3 w' → (w'.cell? ⟨w0.heap.size, 0, none⟩ = some (.int .i64 t.count) ∧ w'.cell? ⟨w0.heap.size, 1, none⟩ = some (.int .i64 t.next) ∧ w'.cell? ⟨w0.heap.size, 2, none⟩ = some (.int .i64 t.round) ∧ w'.cell? ⟨w0.heap.size, 3, none⟩ = some (.slice A0 t.owns.length c0))) := Lib.hid (fun w' h => (KX.out.ex h).c4)
  go_wp2_with fail
  go_region_held3 (fun w' => (w'.cell? ⟨w0.heap.size, 0, none⟩ = some (.int .i64 t.count) ∧ w'.cell? ⟨w0.heap.size, 1, none⟩ = some (.int .i64 t.next) ∧ w'.cell? ⟨w0.heap.size, 2, none⟩ = some (.int .i64 t.round) ∧ w'.cell? ⟨w0.heap.size, 3, none⟩ = some (.slice A0 t.owns.length c0))) ((refine FK5.out _ ?_; with_reducible (first | exact Ex.refl _ | exact (Ex.refl _).drew | exact ((Ex.refl _).alloc _).drew | exact hba5 | exact hba5.alloc _ | exact Ex.set (Ex.set (Ex.set (Ex.set hba5 (Nat.le_refl _) _) (Nat.le_refl _) _) (Nat.le_refl _) _) (Nat.le_refl _) _))) (first | (go_at_call 31; (with_reducible refine (C7.out A0 _ c0 _ _ ?_ ?_ hn hle0 hca0 hk20).mono ?_); (first | with_reducible exact RDT.out _ (Ex.refl _).drew | with_reducible exact RDT.out _ ((Ex.refl _).alloc _).drew); (first | with_reducible exact RDL1.out _ (Ex.refl _).drew | with_reducible exact RDL1.out _ ((Ex.refl _).alloc _).drew); rintro r w5 ⟨A5, c5, rfl, hf5, hb5⟩; (first | (with_reducible (have hba5 : Ex w3 w5 := (Ex.refl _).drew.trans hb5)) | (with_reducible (have hba5 : Ex w3 w5 := ((Ex.refl _).alloc _).drew.trans hb5); have hz : Blk w5 w3.heap.size 30 [.int .i64 0, .int .i64 0, .int .i64 0, .slice none 0 0] := Blk.ex (Blk.drew (Blk.new w3 30 [.int .i64 0, .int .i64 0, .int .i64 0, .slice none 0 0])) hb5; obtain ⟨hz0, hz1, hz2, hz3⟩ := hz.c4; have hzf := hz.frozen; have hzl := hz.lt))))
  all_goals
    rename_i hHeld
    clear hHeld
    first
    | (obtain ⟨wN5, hwN⟩ : ∃ wN : World, wN = w5.alloc (.cells #[.int .i64 a.count, .int .i64 a.next, .int .i64 a.round, .slice A5 a.owns.length c5] 30) := ⟨_, rfl⟩
       have KN5 : Hid (Blk wN5 w5.heap.size 30 [.int .i64 a.count, .int .i64 a.next, .int .i64 a.round, .slice A5 a.owns.length c5]) := Lib.hid (by rw [hwN]; exact Blk.new _ _ _)
       have EE5 : Hid (Ex w3 wN5) := Lib.hid (by rw [hwN]; exact hba5.alloc _)
       have HF5 : Hid (Fr 49 wN5 w3.heap.size A5 c5 a.owns) := Lib.hid (by rw [hwN]; exact (Fr.mono hf5 (by simp)).alloc _)
       obtain ⟨gN5, hgN⟩ : ∃ gN, gN = w5.heap.size := ⟨_, rfl⟩
       rw [← hgN] at KN5
       rw [← hwN, ← hgN]
       clear hwN hgN)
    | (obtain ⟨wN5, hwN⟩ : ∃ wN : World, wN = (((w5.setCell ⟨w3.heap.size, 0, none⟩ (.int .i64 a.count)).setCell ⟨w3.heap.size, 1, none⟩ (.int .i64 a.next)).setCell ⟨w3.heap.size, 2, none⟩ (.int .i64 a.round)).setCell ⟨w3.heap.size, 3, none⟩ (.slice A5 a.owns.length c5) := ⟨_, rfl⟩
       have KN5 : Hid (Blk wN5 w3.heap.size 30 [.int .i64 a.count, .int .i64 a.next, .int .i64 a.round, .slice A5 a.owns.length c5]) := Lib.hid (by rw [hwN]; exact Blk.put4 hz)
       have EE5 : Hid (Ex w3 wN5) := Lib.hid (by rw [hwN]; exact (((hba5.set (Nat.le_refl _) _).set (Nat.le_refl _) _).set (Nat.le_refl _) _).set (Nat.le_refl _) _)
       have HF5 : Hid (Fr 49 wN5 w3.heap.size A5 c5 a.owns) := Lib.hid (by
         rw [hwN]
         refine Fr.mono (B := w3.heap.size + 1) ?_ (by omega)
         have hf6 : Fr 49 w5 (w3.heap.size + 1) A5 c5 a.owns := Fr.mono hf5 (by simp)
         exact (((hf6.set_below (by simp) _).set_below (by simp) _).set_below (by simp) _).set_below (by simp) _)
       obtain ⟨gN5, hgN⟩ : ∃ gN, gN = w3.heap.size := ⟨_, rfl⟩
       rw [← hgN] at KN5
       rw [← hwN, ← hgN]
       clear hwN hgN hz hz0 hz1 hz2 hz3 hzf hzl)
    clear hf5 hb5 hba5 FK5
    have RDA : Hid (∀ w', Ex wN5 w' → Rd w' A5 a.owns) := Lib.hid (fun w' h => HF5.out.rd.ex h)
    have RDL22 : Hid (∀ w', Ex wN5 w' → Rd w' (some ⟨zb, zo + zs.length / 2, none⟩) L2) := Lib.hid (fun w' h => RDL2.out w' (EE5.out.trans h))
    have hle5 := HF5.out.le
    have hca5 := HF5.out.cap
    obtain ⟨qa0, qa1, qa2, qa3⟩ := KN5.out.c4
    have ja := KN5.out.lt
    have FK6 : Hid (∀ w', Ex wN5 w' → (w'.cell? ⟨gN5, 0, none⟩ = some (.int .i64 a.count) ∧ w'.cell? ⟨gN5, 1, none⟩ = some (.int .i64 a.next) ∧ w'.cell? ⟨gN5, 2, none⟩ = some (.int .i64 a.round) ∧ w'.cell? ⟨gN5, 3, none⟩ = some (.slice A5 a.owns.length c5))) := Lib.hid (fun w' h => (KN5.out.ex h).c4)
    go_wp2_with fail
    go_region_held3 (fun w' => (w'.cell? ⟨gN5, 0, none⟩ = some (.int .i64 a.count) ∧ w'.cell? ⟨gN5, 1, none⟩ = some (.int .i64 a.next) ∧ w'.cell? ⟨gN5, 2, none⟩ = some (.int .i64 a.round) ∧ w'.cell? ⟨gN5, 3, none⟩ = some (.slice A5 a.owns.length c5))) ((refine FK6.out _ ?_; with_reducible (first | exact Ex.refl _ | exact (Ex.refl _).drew | exact ((Ex.refl _).alloc _).drew | exact hba6 | exact hba6.alloc _ | exact Ex.set (Ex.set (Ex.set (Ex.set hba6 (Nat.le_refl _) _) (Nat.le_refl _) _) (Nat.le_refl _) _) (Nat.le_refl _) _))) (first | (go_at_call 31; (with_reducible refine (C8.out A5 _ c5 _ _ ?_ ?_ ha20 hle5 hca5 hk21).mono ?_); (first | with_reducible exact RDA.out _ (Ex.refl _).drew | with_reducible exact RDA.out _ ((Ex.refl _).alloc _).drew); (first | with_reducible exact RDL22.out _ (Ex.refl _).drew | with_reducible exact RDL22.out _ ((Ex.refl _).alloc _).drew); rintro r w6 ⟨A6, c6, rfl, hf6, hb6⟩; (first | (with_reducible (have hba6 : Ex wN5 w6 := (Ex.refl _).drew.trans hb6)) | (with_reducible (have hba6 : Ex wN5 w6 := ((Ex.refl _).alloc _).drew.trans hb6); have hz : Blk w6 wN5.heap.size 30 [.int .i64 0, .int .i64 0, .int .i64 0, .slice none 0 0] := Blk.ex (Blk.drew (Blk.new wN5 30 [.int .i64 0, .int .i64 0, .int .i64 0, .slice none 0 0])) hb6; obtain ⟨hz0, hz1, hz2, hz3⟩ := hz.c4; have hzf := hz.frozen; have hzl := hz.lt))))
    all_goals
      rename_i hHeld
      clear hHeld
      first
      | (obtain ⟨wN6, hwN⟩ : ∃ wN : World, wN = w6.alloc (.cells #[.int .i64 u.count, .int .i64 u.next, .int .i64 u.round, .slice A6 u.owns.length c6] 30) := ⟨_, rfl⟩
         have KN6 : Hid (Blk wN6 w6.heap.size 30 [.int .i64 u.count, .int .i64 u.next, .int .i64 u.round, .slice A6 u.owns.length c6]) := Lib.hid (by rw [hwN]; exact Blk.new _ _ _)
         have EE6 : Hid (Ex wN5 wN6) := Lib.hid (by rw [hwN]; exact hba6.alloc _)
         have HF6 : Hid (Fr 49 wN6 wN5.heap.size A6 c6 u.owns) := Lib.hid (by rw [hwN]; exact (Fr.mono hf6 (by simp)).alloc _)
         obtain ⟨gN6, hgN⟩ : ∃ gN, gN = w6.heap.size := ⟨_, rfl⟩
         rw [← hgN] at KN6
         rw [← hwN, ← hgN]
         clear hwN hgN)
      | (obtain ⟨wN6, hwN⟩ : ∃ wN : World, wN = (((w6.setCell ⟨wN5.heap.size, 0, none⟩ (.int .i64 u.count)).setCell ⟨wN5.heap.size, 1, none⟩ (.int .i64 u.next)).setCell ⟨wN5.heap.size, 2, none⟩ (.int .i64 u.round)).setCell ⟨wN5.heap.size, 3, none⟩ (.slice A6 u.owns.length c6) := ⟨_, rfl⟩
         have KN6 : Hid (Blk wN6 wN5.heap.size 30 [.int .i64 u.count, .int .i64 u.next, .int .i64 u.round, .slice A6 u.owns.length c6]) := Lib.hid (by rw [hwN]; exact Blk.put4 hz)
         have EE6 : Hid (Ex wN5 wN6) := Lib.hid (by rw [hwN]; exact (((hba6.set (Nat.le_refl _) _).set (Nat.le_refl _) _).set (Nat.le_refl _) _).set (Nat.le_refl _) _)
         have HF6 : Hid (Fr 49 wN6 wN5.heap.size A6 c6 u.owns) := Lib.hid (by
           rw [hwN]
           refine Fr.mono (B := wN5.heap.size + 1) ?_ (by omega)
           have hf6 : Fr 49 w6 (wN5.heap.size + 1) A6 c6 u.owns := Fr.mono hf6 (by simp)
           exact (((hf6.set_below (by simp) _).set_below (by simp) _).set_below (by simp) _).set_below (by simp) _)
         obtain ⟨gN6, hgN⟩ : ∃ gN, gN = wN5.heap.size := ⟨_, rfl⟩
         rw [← hgN] at KN6
         rw [← hwN, ← hgN]
         clear hwN hgN hz hz0 hz1 hz2 hz3 hzf hzl)
      clear hf6 hb6 hba6 FK6
      have EE : Hid (Ex w3 wN6) := Lib.hid (EE5.out.trans EE6.out)
      have Y7 : Hid (Chg 0 0 w3 wN6) := Lib.hid (Chg.of_ex EE.out)
      clear qa0 qa1 qa2 qa3 ja RDA RDL22
      have s7 : w3.heap.size ≤ wN6.heap.size := Y7.out.size
      have EwN6 : Hid (Ex w wN6) := Lib.hid (Ew3.out.chg Y7.out (by omega))
      clear qX0 qX1 qX2 qX3 jX
      clear qD0 qD1 qD2 qD3 jD
      replace KX : Hid (Blk wN6 (w0.heap.size) 30 [.int .i64 t.count, .int .i64 t.next, .int .i64 t.round, .slice A0 t.owns.length c0]) := Lib.hid (KX.out.chg Y7.out (by omega))
      replace KD : Hid (Blk wN6 (w1.heap.size) 30 [.int .i64 u.count, .int .i64 u.next, .int .i64 u.round, .slice A1 u.owns.length c1]) := Lib.hid (KD.out.chg Y7.out (by omega))
      replace HF0 := Lib.hid (HF0.out.chg Y7.out WHF0.out (by omega))
      replace HFZ := Lib.hid (HFZ.out.chg Y7.out WHFZ.out (by omega))
      replace HF1 := Lib.hid (HF1.out.chg Y7.out WHF1.out (by omega))
      obtain ⟨qX0, qX1, qX2, qX3⟩ := KX.out.c4
      have jX := KX.out.lt
      obtain ⟨qD0, qD1, qD2, qD3⟩ := KD.out.c4
      have jD := KD.out.lt
      have KN := KN6
      obtain ⟨qN0, qN1, qN2, qN3⟩ := KN.out.c4
      have jN := KN.out.lt
      have WHF6 := Lib.hid HF6.out.row
      go_wp2_with fail
      refine name_calls ?_; intro v8 hv8
      have X8 : Hid (Chg (0) (0) wN6 v8) := Lib.hid (by rw [hv8]; repeat' (first | with_reducible exact Chg.refl _ _ _ | with_reducible refine Chg.alloc ?_ _ | with_reducible refine Chg.drew ?_ | with_reducible refine Chg.set ?_ (by omega) _))
      have t8 : wN6.heap.size ≤ v8.heap.size := X8.out.size
      have Ev8 : Hid (Ex w v8) := Lib.hid (EwN6.out.chg X8.out (by omega))
      clear qX0 qX1 qX2 qX3 jX
      clear qD0 qD1 qD2 qD3 jD
      clear qN0 qN1 qN2 qN3 jN
      replace KX : Hid (Blk v8 (w0.heap.size) 30 [.int .i64 t.count, .int .i64 t.next, .int .i64 t.round, .slice A0 t.owns.length c0]) := Lib.hid (KX.out.chg X8.out (by omega))
      replace KD : Hid (Blk v8 (w1.heap.size) 30 [.int .i64 u.count, .int .i64 u.next, .int .i64 u.round, .slice A1 u.owns.length c1]) := Lib.hid (KD.out.chg X8.out (by omega))
      replace KN : Hid (Blk v8 (gN6) 30 [.int .i64 u.count, .int .i64 u.next, .int .i64 u.round, .slice A6 u.owns.length c6]) := Lib.hid (KN.out.chg X8.out (by omega))
      replace HF0 := Lib.hid (HF0.out.chg X8.out WHF0.out (by omega))
      replace HFZ := Lib.hid (HFZ.out.chg X8.out WHFZ.out (by omega))
      replace HF1 := Lib.hid (HF1.out.chg X8.out WHF1.out (by omega))
      replace HF6 := Lib.hid (HF6.out.chg X8.out WHF6.out (by omega))
      clear hv8
      refine (tagsValidI_c u A1 c1 _ HF1.out.rd hfew HF1.out.le).mono ?_; rintro r w8 ⟨rfl, hb8⟩
      have Y8 : Hid (Chg 0 0 v8 w8) := Lib.hid (Chg.of_ex hb8)
      have s8 : v8.heap.size ≤ w8.heap.size := Y8.out.size
      have Ew8 : Hid (Ex w w8) := Lib.hid (Ev8.out.chg Y8.out (by omega))
      clear hb8
      replace KX : Hid (Blk w8 (w0.heap.size) 30 [.int .i64 t.count, .int .i64 t.next, .int .i64 t.round, .slice A0 t.owns.length c0]) := Lib.hid (KX.out.chg Y8.out (by omega))
      replace KD : Hid (Blk w8 (w1.heap.size) 30 [.int .i64 u.count, .int .i64 u.next, .int .i64 u.round, .slice A1 u.owns.length c1]) := Lib.hid (KD.out.chg Y8.out (by omega))
      replace KN : Hid (Blk w8 (gN6) 30 [.int .i64 u.count, .int .i64 u.next, .int .i64 u.round, .slice A6 u.owns.length c6]) := Lib.hid (KN.out.chg Y8.out (by omega))
      replace HF0 := Lib.hid (HF0.out.chg Y8.out WHF0.out (by omega))
      replace HFZ := Lib.hid (HFZ.out.chg Y8.out WHFZ.out (by omega))
      replace HF1 := Lib.hid (HF1.out.chg Y8.out WHF1.out (by omega))
      replace HF6 := Lib.hid (HF6.out.chg Y8.out WHF6.out (by omega))
      obtain ⟨qX0, qX1, qX2, qX3⟩ := KX.out.c4
      have jX := KX.out.lt
      obtain ⟨qD0, qD1, qD2, qD3⟩ := KD.out.c4
      have jD := KD.out.lt
      obtain ⟨qN0, qN1, qN2, qN3⟩ := KN.out.c4
      have jN := KN.out.lt
      rw [hvu]
      go_wp2_with fail
      refine name_calls ?_; intro v9 hv9
      have X9 : Hid (Chg (0) (0) w8 v9) := Lib.hid (by rw [hv9]; repeat' (first | with_reducible exact Chg.refl _ _ _ | with_reducible refine Chg.alloc ?_ _ | with_reducible refine Chg.drew ?_ | with_reducible refine Chg.set ?_ (by omega) _))
      have t9 : w8.heap.size ≤ v9.heap.size := X9.out.size
      have Ev9 : Hid (Ex w v9) := Lib.hid (Ew8.out.chg X9.out (by omega))
      clear qX0 qX1 qX2 qX3 jX
      clear qD0 qD1 qD2 qD3 jD
      clear qN0 qN1 qN2 qN3 jN
      replace KX : Hid (Blk v9 (w0.heap.size) 30 [.int .i64 t.count, .int .i64 t.next, .int .i64 t.round, .slice A0 t.owns.length c0]) := Lib.hid (KX.out.chg X9.out (by omega))
      replace KD : Hid (Blk v9 (w1.heap.size) 30 [.int .i64 u.count, .int .i64 u.next, .int .i64 u.round, .slice A1 u.owns.length c1]) := Lib.hid (KD.out.chg X9.out (by omega))
      replace KN : Hid (Blk v9 (gN6) 30 [.int .i64 u.count, .int .i64 u.next, .int .i64 u.round, .slice A6 u.owns.length c6]) := Lib.hid (KN.out.chg X9.out (by omega))
      replace HF0 := Lib.hid (HF0.out.chg X9.out WHF0.out (by omega))
      replace HFZ := Lib.hid (HFZ.out.chg X9.out WHFZ.out (by omega))
      replace HF1 := Lib.hid (HF1.out.chg X9.out WHF1.out (by omega))
      replace HF6 := Lib.hid (HF6.out.chg X9.out WHF6.out (by omega))
      clear hv9
      refine (tagsSameI_c u u _ _ _ _ _ HF6.out.rd HF1.out.rd hfew hfew).mono ?_; rintro r w9 ⟨rfl, hb9⟩
      have Y9 : Hid (Chg 0 0 v9 w9) := Lib.hid (Chg.of_ex hb9)
      have s9 : v9.heap.size ≤ w9.heap.size := Y9.out.size
      have Ew9 : Hid (Ex w w9) := Lib.hid (Ev9.out.chg Y9.out (by omega))
      clear hb9
      replace KX : Hid (Blk w9 (w0.heap.size) 30 [.int .i64 t.count, .int .i64 t.next, .int .i64 t.round, .slice A0 t.owns.length c0]) := Lib.hid (KX.out.chg Y9.out (by omega))
      replace KD : Hid (Blk w9 (w1.heap.size) 30 [.int .i64 u.count, .int .i64 u.next, .int .i64 u.round, .slice A1 u.owns.length c1]) := Lib.hid (KD.out.chg Y9.out (by omega))
      replace KN : Hid (Blk w9 (gN6) 30 [.int .i64 u.count, .int .i64 u.next, .int .i64 u.round, .slice A6 u.owns.length c6]) := Lib.hid (KN.out.chg Y9.out (by omega))
      replace HF0 := Lib.hid (HF0.out.chg Y9.out WHF0.out (by omega))
      replace HFZ := Lib.hid (HFZ.out.chg Y9.out WHFZ.out (by omega))
      replace HF1 := Lib.hid (HF1.out.chg Y9.out WHF1.out (by omega))
      replace HF6 := Lib.hid (HF6.out.chg Y9.out WHF6.out (by omega))
      obtain ⟨qX0, qX1, qX2, qX3⟩ := KX.out.c4
      have jX := KX.out.lt
      obtain ⟨qD0, qD1, qD2, qD3⟩ := KD.out.c4
      have jD := KD.out.lt
      obtain ⟨qN0, qN1, qN2, qN3⟩ := KN.out.c4
      have jN := KN.out.lt
      rw [eqB_self]
      go_wp2
      go_ret
      exact ⟨rfl, (by repeat' (first | with_reducible exact Ew9.out | with_reducible refine Ex.alloc ?_ _ | with_reducible refine Ex.drew ?_ | with_reducible refine Ex.put ?_ (by omega) _))⟩
end Go.Proofs.Ytkiohppknlmfaaa
