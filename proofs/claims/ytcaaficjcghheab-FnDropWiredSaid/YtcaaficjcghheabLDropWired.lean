/- The law FnDropWired: the walk. -/
import Derived.Test.YtcaaficjcghheabDd
import Derived.Test.YtcaaficjcghheabCs
namespace Go.Proofs.Ytcaaficjcghheab
open Go.ChangeShapes Go.WideShapes Go.ChangeAt Go.RowKit
open Rec (sz cs)
set_option linter.unusedVariables false
set_option maxRecDepth 100000

/-- What holds at the head of the law's loop. -/
def DropRound (t u : CacheD) (gC gD a1 o1 c0 b1 o2 c1 : Nat) (w : World) (i : Value) (wr : World) : Prop := ∃ k : Nat, k ≤ u.lines.length ∧ i = .int .i64 k ∧ Ex w wr ∧ Blk wr gC 25 [.slice (some ⟨a1, o1, none⟩) t.lines.length c0, .int .i64 t.hand] ∧
  Blk wr gD 25 [.slice (some ⟨b1, o2, none⟩) u.lines.length c1, .int .i64 u.hand] ∧ Rd wr (some ⟨a1, o1, none⟩) t.lines ∧ Rd wr (some ⟨b1, o2, none⟩) u.lines

set_option maxHeartbeats 16000000 in
theorem walk_FnDropWired (A : Option Addr) (n c : Nat) (bs : List ByteD) (w : World) (hr : Rd w A bs) (hc : Bytes bs ∧ bs.length = n ∧ n ≤ c ∧ c ≤ maxLen) :
    Calls Try.prog 3 #[.slice A n c] w fun r w' => r = .returned (.bool true) ∧ Ex w w' := by
  obtain ⟨hb, rfl, hnc, hcm⟩ := hc
  by_cases hbig : 1048576 < bs.length
  · have hbig' : (1048576 : Int) < (bs.length : Int) := by omega
    unfold maxLen at hcm
    generalize bs.length = n at *
    go_enter Try.func3, Try.ntmps3
    go_wp2
    go_ret
    exact ⟨rfl, Ex.refl _⟩
  have hsm : ¬ (1048576 : Int) < (bs.length : Int) := by omega
  have C0 := Lib.hid (fun w' (h : Ex w w') => drawDropAll_c A c bs w' (hr.ex h) hb (by omega) hnc hcm)
  have hcm' := hcm
  unfold maxLen at hcm'
  generalize bs.length = n at *
  clear hr hb hcm
  go_enter Try.func3, Try.ntmps3
  go_wp2_with fail
  refine name_calls ?_; intro v0 hv0
  have X0 : Hid (Chg (0) (0) w v0) := Lib.hid (by rw [hv0]; repeat' (first | with_reducible exact Chg.refl _ _ _ | with_reducible refine Chg.alloc ?_ _ | with_reducible refine Chg.drew ?_ | with_reducible refine Chg.set ?_ (by omega) _))
  have t0 : w.heap.size ≤ v0.heap.size := X0.out.size
  have Ev0 : Hid (Ex w v0) := Lib.hid ((Ex.refl w).chg X0.out (by omega))
  clear hv0
  refine (C0.out _ Ev0.out).mono ?_; rintro r w0 ⟨t, A0, c0, rfl, hww, hf0, hb0⟩
  have Y0 : Hid (Chg 0 0 v0 w0) := Lib.hid (Chg.of_ex hb0)
  have s0 : v0.heap.size ≤ w0.heap.size := Y0.out.size
  have Ew0 : Hid (Ex w w0) := Lib.hid (Ev0.out.chg Y0.out (by omega))
  clear hb0
  have HF0 := Lib.hid hf0; clear hf0
  have WHF0 := Lib.hid HF0.out.row
  have hn : t.lines.length ≤ 1048576 := by have := hww.1; omega
  have C1 := Lib.hid (dropAllI_c t)
  have C2 := Lib.hid (dropAllS_c t)
  clear hww C0
  cases hv : cacheV t
  · have e : dropAll t = (noCache, false) := by unfold dropAll; rw [hv]; rfl
    rw [e] at C1 C2
    dsimp only at C1 C2
    have hfew : noCache.lines.length ≤ 1048576 := by simp [noCache]
    clear e
    go_wp2_with fail
    refine name_calls ?_; intro v1 hv1
    have X1 : Hid (Chg (0) (0) w0 v1) := Lib.hid (by rw [hv1]; repeat' (first | with_reducible exact Chg.refl _ _ _ | with_reducible refine Chg.alloc ?_ _ | with_reducible refine Chg.drew ?_ | with_reducible refine Chg.set ?_ (by omega) _))
    have t1 : w0.heap.size ≤ v1.heap.size := X1.out.size
    have Ev1 : Hid (Ex w v1) := Lib.hid (Ew0.out.chg X1.out (by omega))
    replace HF0 := Lib.hid (HF0.out.chg X1.out WHF0.out (by omega))
    have KC : Hid (Blk v1 (w0.heap.size) 25 [.slice A0 t.lines.length c0, .int .i64 t.hand]) := Lib.hid (by rw [hv1]; repeat' (first | with_reducible exact Blk.new_at _ _ _ (by simp) | with_reducible refine Blk.alloc ?_ _ | with_reducible refine Blk.drew ?_ | with_reducible refine Blk.far ?_ (by simp; omega) _))
    have lC : w0.heap.size < v1.heap.size := KC.out.lt
    clear hv1
    refine (C1.out A0 c0 _ HF0.out.rd hn HF0.out.le HF0.out.cap).mono ?_; rintro r w1 ⟨A1, c1, rfl, hf1, hb1⟩
    have Y1 : Hid (Chg 0 0 v1 w1) := Lib.hid (Chg.of_ex hb1)
    have s1 : v1.heap.size ≤ w1.heap.size := Y1.out.size
    have Ew1 : Hid (Ex w w1) := Lib.hid (Ev1.out.chg Y1.out (by omega))
    clear hb1
    replace KC : Hid (Blk w1 (w0.heap.size) 25 [.slice A0 t.lines.length c0, .int .i64 t.hand]) := Lib.hid (KC.out.chg Y1.out (by omega))
    replace HF0 := Lib.hid (HF0.out.chg Y1.out WHF0.out (by omega))
    have HF1 := Lib.hid hf1; clear hf1
    have WHF1 := Lib.hid HF1.out.row
    obtain ⟨qC0, qC1⟩ := KC.out.c2
    have jC := KC.out.lt
    go_wp2_with fail
    refine name_calls ?_; intro v2 hv2
    have X2 : Hid (Chg (0) (0) w1 v2) := Lib.hid (by rw [hv2]; repeat' (first | with_reducible exact Chg.refl _ _ _ | with_reducible refine Chg.alloc ?_ _ | with_reducible refine Chg.drew ?_ | with_reducible refine Chg.set ?_ (by omega) _))
    have t2 : w1.heap.size ≤ v2.heap.size := X2.out.size
    have Ev2 : Hid (Ex w v2) := Lib.hid (Ew1.out.chg X2.out (by omega))
    clear qC0 qC1 jC
    replace KC : Hid (Blk v2 (w0.heap.size) 25 [.slice A0 t.lines.length c0, .int .i64 t.hand]) := Lib.hid (KC.out.chg X2.out (by omega))
    replace HF0 := Lib.hid (HF0.out.chg X2.out WHF0.out (by omega))
    replace HF1 := Lib.hid (HF1.out.chg X2.out WHF1.out (by omega))
    have KD : Hid (Blk v2 (w1.heap.size) 25 [.slice A1 noCache.lines.length c1, .int .i64 noCache.hand]) := Lib.hid (by rw [hv2]; repeat' (first | with_reducible exact Blk.new_at _ _ _ (by simp) | with_reducible refine Blk.alloc ?_ _ | with_reducible refine Blk.drew ?_ | with_reducible refine Blk.far ?_ (by simp; omega) _))
    have lD : w1.heap.size < v2.heap.size := KD.out.lt
    clear hv2
    refine (C2.out A0 c0 _ HF0.out.rd hn HF0.out.le HF0.out.cap).mono ?_; rintro r w2 ⟨A2, c2, rfl, hf2, hb2⟩
    have Y2 : Hid (Chg 0 0 v2 w2) := Lib.hid (Chg.of_ex hb2)
    have s2 : v2.heap.size ≤ w2.heap.size := Y2.out.size
    have Ew2 : Hid (Ex w w2) := Lib.hid (Ev2.out.chg Y2.out (by omega))
    clear hb2
    replace KC : Hid (Blk w2 (w0.heap.size) 25 [.slice A0 t.lines.length c0, .int .i64 t.hand]) := Lib.hid (KC.out.chg Y2.out (by omega))
    replace KD : Hid (Blk w2 (w1.heap.size) 25 [.slice A1 noCache.lines.length c1, .int .i64 noCache.hand]) := Lib.hid (KD.out.chg Y2.out (by omega))
    replace HF0 := Lib.hid (HF0.out.chg Y2.out WHF0.out (by omega))
    replace HF1 := Lib.hid (HF1.out.chg Y2.out WHF1.out (by omega))
    have HF2 := Lib.hid hf2; clear hf2
    have WHF2 := Lib.hid HF2.out.row
    obtain ⟨qC0, qC1⟩ := KC.out.c2
    have jC := KC.out.lt
    obtain ⟨qD0, qD1⟩ := KD.out.c2
    have jD := KD.out.lt
    go_wp2_with fail
    refine name_calls ?_; intro v3 hv3
    have X3 : Hid (Chg (0) (0) w2 v3) := Lib.hid (by rw [hv3]; repeat' (first | with_reducible exact Chg.refl _ _ _ | with_reducible refine Chg.alloc ?_ _ | with_reducible refine Chg.drew ?_ | with_reducible refine Chg.set ?_ (by omega) _))
    have t3 : w2.heap.size ≤ v3.heap.size := X3.out.size
    have Ev3 : Hid (Ex w v3) := Lib.hid (Ew2.out.chg X3.out (by omega))
    clear qC0 qC1 jC
    clear qD0 qD1 jD
    replace KC : Hid (Blk v3 (w0.heap.size) 25 [.slice A0 t.lines.length c0, .int .i64 t.hand]) := Lib.hid (KC.out.chg X3.out (by omega))
    replace KD : Hid (Blk v3 (w1.heap.size) 25 [.slice A1 noCache.lines.length c1, .int .i64 noCache.hand]) := Lib.hid (KD.out.chg X3.out (by omega))
    replace HF0 := Lib.hid (HF0.out.chg X3.out WHF0.out (by omega))
    replace HF1 := Lib.hid (HF1.out.chg X3.out WHF1.out (by omega))
    replace HF2 := Lib.hid (HF2.out.chg X3.out WHF2.out (by omega))
    have KW : Hid (Blk v3 (w2.heap.size) 25 [.slice A2 noCache.lines.length c2, .int .i64 noCache.hand]) := Lib.hid (by rw [hv3]; repeat' (first | with_reducible exact Blk.new_at _ _ _ (by simp) | with_reducible refine Blk.alloc ?_ _ | with_reducible refine Blk.drew ?_ | with_reducible refine Blk.far ?_ (by simp; omega) _))
    have lW : w2.heap.size < v3.heap.size := KW.out.lt
    clear hv3
    refine (cacheSameI_c noCache noCache _ _ _ _ _ HF1.out.rd HF2.out.rd hfew hfew).mono ?_; rintro r w3 ⟨rfl, hb3⟩
    have Y3 : Hid (Chg 0 0 v3 w3) := Lib.hid (Chg.of_ex hb3)
    have s3 : v3.heap.size ≤ w3.heap.size := Y3.out.size
    have Ew3 : Hid (Ex w w3) := Lib.hid (Ev3.out.chg Y3.out (by omega))
    clear hb3
    replace KC : Hid (Blk w3 (w0.heap.size) 25 [.slice A0 t.lines.length c0, .int .i64 t.hand]) := Lib.hid (KC.out.chg Y3.out (by omega))
    replace KD : Hid (Blk w3 (w1.heap.size) 25 [.slice A1 noCache.lines.length c1, .int .i64 noCache.hand]) := Lib.hid (KD.out.chg Y3.out (by omega))
    replace KW : Hid (Blk w3 (w2.heap.size) 25 [.slice A2 noCache.lines.length c2, .int .i64 noCache.hand]) := Lib.hid (KW.out.chg Y3.out (by omega))
    replace HF0 := Lib.hid (HF0.out.chg Y3.out WHF0.out (by omega))
    replace HF1 := Lib.hid (HF1.out.chg Y3.out WHF1.out (by omega))
    replace HF2 := Lib.hid (HF2.out.chg Y3.out WHF2.out (by omega))
    obtain ⟨qC0, qC1⟩ := KC.out.c2
    have jC := KC.out.lt
    obtain ⟨qD0, qD1⟩ := KD.out.c2
    have jD := KD.out.lt
    obtain ⟨qW0, qW1⟩ := KW.out.c2
    have jW := KW.out.lt
    rw [eqB_self]
    go_wp2_with fail
    refine name_calls ?_; intro v4 hv4
    have X4 : Hid (Chg (0) (0) w3 v4) := Lib.hid (by rw [hv4]; repeat' (first | with_reducible exact Chg.refl _ _ _ | with_reducible refine Chg.alloc ?_ _ | with_reducible refine Chg.drew ?_ | with_reducible refine Chg.set ?_ (by omega) _))
    have t4 : w3.heap.size ≤ v4.heap.size := X4.out.size
    have Ev4 : Hid (Ex w v4) := Lib.hid (Ew3.out.chg X4.out (by omega))
    clear qC0 qC1 jC
    clear qD0 qD1 jD
    clear qW0 qW1 jW
    replace KC : Hid (Blk v4 (w0.heap.size) 25 [.slice A0 t.lines.length c0, .int .i64 t.hand]) := Lib.hid (KC.out.chg X4.out (by omega))
    replace KD : Hid (Blk v4 (w1.heap.size) 25 [.slice A1 noCache.lines.length c1, .int .i64 noCache.hand]) := Lib.hid (KD.out.chg X4.out (by omega))
    replace KW : Hid (Blk v4 (w2.heap.size) 25 [.slice A2 noCache.lines.length c2, .int .i64 noCache.hand]) := Lib.hid (KW.out.chg X4.out (by omega))
    replace HF0 := Lib.hid (HF0.out.chg X4.out WHF0.out (by omega))
    replace HF1 := Lib.hid (HF1.out.chg X4.out WHF1.out (by omega))
    replace HF2 := Lib.hid (HF2.out.chg X4.out WHF2.out (by omega))
    clear hv4
    refine (cacheSameI_c noCache noCache _ _ _ _ _ HF1.out.rd HF2.out.rd hfew hfew).mono ?_; rintro r w4 ⟨rfl, hb4⟩
    have Y4 : Hid (Chg 0 0 v4 w4) := Lib.hid (Chg.of_ex hb4)
    have s4 : v4.heap.size ≤ w4.heap.size := Y4.out.size
    have Ew4 : Hid (Ex w w4) := Lib.hid (Ev4.out.chg Y4.out (by omega))
    clear hb4
    replace KC : Hid (Blk w4 (w0.heap.size) 25 [.slice A0 t.lines.length c0, .int .i64 t.hand]) := Lib.hid (KC.out.chg Y4.out (by omega))
    replace KD : Hid (Blk w4 (w1.heap.size) 25 [.slice A1 noCache.lines.length c1, .int .i64 noCache.hand]) := Lib.hid (KD.out.chg Y4.out (by omega))
    replace KW : Hid (Blk w4 (w2.heap.size) 25 [.slice A2 noCache.lines.length c2, .int .i64 noCache.hand]) := Lib.hid (KW.out.chg Y4.out (by omega))
    replace HF0 := Lib.hid (HF0.out.chg Y4.out WHF0.out (by omega))
    replace HF1 := Lib.hid (HF1.out.chg Y4.out WHF1.out (by omega))
    replace HF2 := Lib.hid (HF2.out.chg Y4.out WHF2.out (by omega))
    obtain ⟨qC0, qC1⟩ := KC.out.c2
    have jC := KC.out.lt
    obtain ⟨qD0, qD1⟩ := KD.out.c2
    have jD := KD.out.lt
    obtain ⟨qW0, qW1⟩ := KW.out.c2
    have jW := KW.out.lt
    rw [eqB_self]
    go_wp2
    go_ret
    exact ⟨rfl, Ew4.out⟩
  have hcv := (cv_iff t).1 hv
  have h1 := hcv.n1
  rw [dropAll_eq hcv] at C1 C2
  have C4 := Lib.hid (dropAllI_c (dropIf t (fun _ => true)))
  rw [dropAll_eq (dropIf_cv hcv _), dropIf_idem] at C4
  have HUK : Hid (∀ (j : Nat) (x : LineD), t.lines[j]? = some x → (x.wired = true → x.valid = true) ∧ (dropIf t (fun _ => true)).lines[j]? = some (dropL (fun _ => true) x)) := Lib.hid (fun j x hx => ⟨fun hw => by
    cases hxv : x.valid
    · have := lineV_no (hcv.ok j x hx) hxv
      rw [this] at hw
      cases hw
    · rfl, by unfold dropIf; simp only [List.getElem?_map, hx, Option.map_some]⟩)
  have hul : (dropIf t (fun _ => true)).lines.length = t.lines.length := dropIf_len _ _
  have hfew : (dropIf t (fun _ => true)).lines.length ≤ 1048576 := by omega
  clear hcv hv
  generalize dropIf t (fun _ => true) = u at C1 C2 C4 HUK hfew hul
  dsimp only at C1 C2 C4
  have HUL := Lib.hid hul
  obtain ⟨a1, o1, hA, -, -⟩ := HF0.out.rd (by omega)
  subst hA
  have hu0 : 0 < u.lines.length := by omega
  clear hul
  go_wp2_with fail
  refine name_calls ?_; intro v1 hv1
  have X1 : Hid (Chg (0) (0) w0 v1) := Lib.hid (by rw [hv1]; repeat' (first | with_reducible exact Chg.refl _ _ _ | with_reducible refine Chg.alloc ?_ _ | with_reducible refine Chg.drew ?_ | with_reducible refine Chg.set ?_ (by omega) _))
  have t1 : w0.heap.size ≤ v1.heap.size := X1.out.size
  have Ev1 : Hid (Ex w v1) := Lib.hid (Ew0.out.chg X1.out (by omega))
  replace HF0 := Lib.hid (HF0.out.chg X1.out WHF0.out (by omega))
  have KC : Hid (Blk v1 (w0.heap.size) 25 [.slice (some ⟨a1, o1, none⟩) t.lines.length c0, .int .i64 t.hand]) := Lib.hid (by rw [hv1]; repeat' (first | with_reducible exact Blk.new_at _ _ _ (by simp) | with_reducible refine Blk.alloc ?_ _ | with_reducible refine Blk.drew ?_ | with_reducible refine Blk.far ?_ (by simp; omega) _))
  have lC : w0.heap.size < v1.heap.size := KC.out.lt
  clear hv1
  refine (C1.out _ c0 _ HF0.out.rd hn HF0.out.le HF0.out.cap).mono ?_; rintro r w1 ⟨A1, c1, rfl, hf1, hb1⟩
  have Y1 : Hid (Chg 0 0 v1 w1) := Lib.hid (Chg.of_ex hb1)
  have s1 : v1.heap.size ≤ w1.heap.size := Y1.out.size
  have Ew1 : Hid (Ex w w1) := Lib.hid (Ev1.out.chg Y1.out (by omega))
  clear hb1
  replace KC : Hid (Blk w1 (w0.heap.size) 25 [.slice (some ⟨a1, o1, none⟩) t.lines.length c0, .int .i64 t.hand]) := Lib.hid (KC.out.chg Y1.out (by omega))
  replace HF0 := Lib.hid (HF0.out.chg Y1.out WHF0.out (by omega))
  have HF1 := Lib.hid hf1; clear hf1
  have WHF1 := Lib.hid HF1.out.row
  obtain ⟨qC0, qC1⟩ := KC.out.c2
  have jC := KC.out.lt
  go_wp2_with fail
  refine name_calls ?_; intro v2 hv2
  have X2 : Hid (Chg (0) (0) w1 v2) := Lib.hid (by rw [hv2]; repeat' (first | with_reducible exact Chg.refl _ _ _ | with_reducible refine Chg.alloc ?_ _ | with_reducible refine Chg.drew ?_ | with_reducible refine Chg.set ?_ (by omega) _))
  have t2 : w1.heap.size ≤ v2.heap.size := X2.out.size
  have Ev2 : Hid (Ex w v2) := Lib.hid (Ew1.out.chg X2.out (by omega))
  clear qC0 qC1 jC
  replace KC : Hid (Blk v2 (w0.heap.size) 25 [.slice (some ⟨a1, o1, none⟩) t.lines.length c0, .int .i64 t.hand]) := Lib.hid (KC.out.chg X2.out (by omega))
  replace HF0 := Lib.hid (HF0.out.chg X2.out WHF0.out (by omega))
  replace HF1 := Lib.hid (HF1.out.chg X2.out WHF1.out (by omega))
  have KD : Hid (Blk v2 (w1.heap.size) 25 [.slice A1 u.lines.length c1, .int .i64 u.hand]) := Lib.hid (by rw [hv2]; repeat' (first | with_reducible exact Blk.new_at _ _ _ (by simp) | with_reducible refine Blk.alloc ?_ _ | with_reducible refine Blk.drew ?_ | with_reducible refine Blk.far ?_ (by simp; omega) _))
  have lD : w1.heap.size < v2.heap.size := KD.out.lt
  clear hv2
  refine (C2.out _ c0 _ HF0.out.rd hn HF0.out.le HF0.out.cap).mono ?_; rintro r w2 ⟨A2, c2, rfl, hf2, hb2⟩
  have Y2 : Hid (Chg 0 0 v2 w2) := Lib.hid (Chg.of_ex hb2)
  have s2 : v2.heap.size ≤ w2.heap.size := Y2.out.size
  have Ew2 : Hid (Ex w w2) := Lib.hid (Ev2.out.chg Y2.out (by omega))
  clear hb2
  replace KC : Hid (Blk w2 (w0.heap.size) 25 [.slice (some ⟨a1, o1, none⟩) t.lines.length c0, .int .i64 t.hand]) := Lib.hid (KC.out.chg Y2.out (by omega))
  replace KD : Hid (Blk w2 (w1.heap.size) 25 [.slice A1 u.lines.length c1, .int .i64 u.hand]) := Lib.hid (KD.out.chg Y2.out (by omega))
  replace HF0 := Lib.hid (HF0.out.chg Y2.out WHF0.out (by omega))
  replace HF1 := Lib.hid (HF1.out.chg Y2.out WHF1.out (by omega))
  have HF2 := Lib.hid hf2; clear hf2
  have WHF2 := Lib.hid HF2.out.row
  obtain ⟨qC0, qC1⟩ := KC.out.c2
  have jC := KC.out.lt
  obtain ⟨qD0, qD1⟩ := KD.out.c2
  have jD := KD.out.lt
  go_wp2_with fail
  refine name_calls ?_; intro v3 hv3
  have X3 : Hid (Chg (0) (0) w2 v3) := Lib.hid (by rw [hv3]; repeat' (first | with_reducible exact Chg.refl _ _ _ | with_reducible refine Chg.alloc ?_ _ | with_reducible refine Chg.drew ?_ | with_reducible refine Chg.set ?_ (by omega) _))
  have t3 : w2.heap.size ≤ v3.heap.size := X3.out.size
  have Ev3 : Hid (Ex w v3) := Lib.hid (Ew2.out.chg X3.out (by omega))
  clear qC0 qC1 jC
  clear qD0 qD1 jD
  replace KC : Hid (Blk v3 (w0.heap.size) 25 [.slice (some ⟨a1, o1, none⟩) t.lines.length c0, .int .i64 t.hand]) := Lib.hid (KC.out.chg X3.out (by omega))
  replace KD : Hid (Blk v3 (w1.heap.size) 25 [.slice A1 u.lines.length c1, .int .i64 u.hand]) := Lib.hid (KD.out.chg X3.out (by omega))
  replace HF0 := Lib.hid (HF0.out.chg X3.out WHF0.out (by omega))
  replace HF1 := Lib.hid (HF1.out.chg X3.out WHF1.out (by omega))
  replace HF2 := Lib.hid (HF2.out.chg X3.out WHF2.out (by omega))
  have KW : Hid (Blk v3 (w2.heap.size) 25 [.slice A2 u.lines.length c2, .int .i64 u.hand]) := Lib.hid (by rw [hv3]; repeat' (first | with_reducible exact Blk.new_at _ _ _ (by simp) | with_reducible refine Blk.alloc ?_ _ | with_reducible refine Blk.drew ?_ | with_reducible refine Blk.far ?_ (by simp; omega) _))
  have lW : w2.heap.size < v3.heap.size := KW.out.lt
  clear hv3
  refine (cacheSameI_c u u _ _ _ _ _ HF1.out.rd HF2.out.rd hfew hfew).mono ?_; rintro r w3 ⟨rfl, hb3⟩
  have Y3 : Hid (Chg 0 0 v3 w3) := Lib.hid (Chg.of_ex hb3)
  have s3 : v3.heap.size ≤ w3.heap.size := Y3.out.size
  have Ew3 : Hid (Ex w w3) := Lib.hid (Ev3.out.chg Y3.out (by omega))
  clear hb3
  replace KC : Hid (Blk w3 (w0.heap.size) 25 [.slice (some ⟨a1, o1, none⟩) t.lines.length c0, .int .i64 t.hand]) := Lib.hid (KC.out.chg Y3.out (by omega))
  replace KD : Hid (Blk w3 (w1.heap.size) 25 [.slice A1 u.lines.length c1, .int .i64 u.hand]) := Lib.hid (KD.out.chg Y3.out (by omega))
  replace KW : Hid (Blk w3 (w2.heap.size) 25 [.slice A2 u.lines.length c2, .int .i64 u.hand]) := Lib.hid (KW.out.chg Y3.out (by omega))
  replace HF0 := Lib.hid (HF0.out.chg Y3.out WHF0.out (by omega))
  replace HF1 := Lib.hid (HF1.out.chg Y3.out WHF1.out (by omega))
  replace HF2 := Lib.hid (HF2.out.chg Y3.out WHF2.out (by omega))
  obtain ⟨qC0, qC1⟩ := KC.out.c2
  have jC := KC.out.lt
  obtain ⟨qD0, qD1⟩ := KD.out.c2
  have jD := KD.out.lt
  obtain ⟨qW0, qW1⟩ := KW.out.c2
  have jW := KW.out.lt
  rw [eqB_self]
  clear qW0 qW1 jW
  clear KW
  clear HF2 WHF2
  obtain ⟨b1, o2, hA1, -, -⟩ := HF1.out.rd hu0
  have hle1 := HF1.out.le
  have hca1 := HF1.out.cap
  subst hA1
  obtain ⟨gC, hgC⟩ : ∃ gC, gC = w0.heap.size := ⟨_, rfl⟩
  obtain ⟨gD, hgD⟩ : ∃ gD, gD = w1.heap.size := ⟨_, rfl⟩
  have HST : Hid (DropRound t u gC gD a1 o1 c0 b1 o2 c1 w (.int .i64 0) w3) := Lib.hid ⟨0, Nat.zero_le _, rfl, Ew3.out, by rw [hgC]; exact KC.out, by rw [hgD]; exact KD.out, HF0.out.rd, HF1.out.rd⟩
  rw [← hgC] at KC qC0 qC1 jC ⊢
  rw [← hgD] at KD qD0 qD1 jD ⊢
  clear hgC hgD
  go_wp2
  clear qC0 qC1 jC qD0 qD1 jD KC KD HF0 HF1 WHF0 WHF1
  go_loopw [8] (fun i wr => DropRound t u gC gD a1 o1 c0 b1 o2 c1 w i wr) (fun i _ => u.lines.length - (intOf i).toNat)
  case atStart => exact HST.out
  case round =>
    clear HST
    obtain ⟨k, hk, rfl, hex, hkc, hkd, hr0, hr1⟩ := hrel
    have Ewr := Lib.hid hex
    have KC := Lib.hid hkc
    have KD := Lib.hid hkd
    have HR0 := Lib.hid hr0
    have HR1 := Lib.hid hr1
    clear hex hkc hkd hr0 hr1
    obtain ⟨qC0, qC1⟩ := KC.out.c2
    have jC := KC.out.lt
    obtain ⟨qD0, qD1⟩ := KD.out.c2
    have jD := KD.out.lt
    by_cases hlt : k < u.lines.length
    · have hltt : k < t.lines.length := by rw [← HUL.out]; exact hlt
      have hk0 : ¬ ((k : Int) < 0) := by omega
      have hk1 : (k : Int) < (t.lines.length : Int) := by omega
      have hk2 : (k : Int) < (u.lines.length : Int) := by omega
      obtain ⟨x1, hb1, hx1, g0, g1, g2, g3, g4, g5⟩ := Rd.line_known HR0.out (k := k) hltt
      obtain ⟨x2, hb2, hx2, e0, e1, e2, e3, e4, e5⟩ := Rd.line_known HR1.out (k := k) hlt
      obtain ⟨hwv, hux⟩ := HUK.out k x1 hx1
      have hx2e : x2 = dropL (fun _ => true) x1 := by rw [hux] at hx2; injection hx2 with hx2; exact hx2.symm
      subst hx2e
      have HWV := Lib.hid hwv
      clear hx1 hx2 hux hwv
      cases hw : x1.wired
      · have hd : dropL (fun _ => true) x1 = noLine := by unfold dropL; rw [hw]; rfl
        rw [hd] at e0 e1 e2 e3 e4 e5
        dsimp only [noLine] at e0 e1 e2 e3 e4 e5
        rw [hw] at g5
        clear hd hw
        go_wp2_with fail
        go_quiet (fail)
        go_wp2
        go_roundw
        case rel => exact ⟨k + 1, by omega, by go_num, Ewr.out.drewN _, KC.out.drewN _, KD.out.drewN _, HR0.out.drewN _, HR1.out.drewN _⟩
        case measure => simp [intOf]; omega
      · have hd : dropL (fun _ => true) x1 = x1 := by unfold dropL; rw [hw]; rfl
        have hxv := HWV.out hw
        rw [hd] at e0 e1 e2 e3 e4 e5
        obtain ⟨yv, yt, yp, yf, yr, yw⟩ := x1
        simp only at hw hxv
        subst hw hxv
        dsimp only at e0 e1 e2 e3 e4 e5 g0 g1 g2 g3 g4 g5
        clear hd
        have hneq := neq_line (⟨true, yt, yp, yf, yr, true⟩ : LineD) ⟨true, yt, yp, yf, yr, true⟩
        rw [eqB_self] at hneq
        simp only [Bool.not_true] at hneq
        have hgd := guardLine
        go_wp2_with fail
        go_quiet (fail)
        clear hneq hgd
        go_wp2
        go_roundw
        case rel => exact ⟨k + 1, by omega, by go_num, Ewr.out.drewN _, KC.out.drewN _, KD.out.drewN _, HR0.out.drewN _, HR1.out.drewN _⟩
        case measure => simp [intOf]; omega
    have hge : ¬ (k : Int) < (u.lines.length : Int) := by omega
    go_wp2_with fail
    refine name_calls ?_; intro v4 hv4
    have X4 : Hid (Chg (0) (0) wr v4) := Lib.hid (by rw [hv4]; repeat' (first | with_reducible exact Chg.refl _ _ _ | with_reducible refine Chg.alloc ?_ _ | with_reducible refine Chg.drew ?_ | with_reducible refine Chg.set ?_ (by omega) _))
    have t4 : wr.heap.size ≤ v4.heap.size := X4.out.size
    have Ev4 : Hid (Ex w v4) := Lib.hid (Ewr.out.chg X4.out (by omega))
    clear qC0 qC1 jC
    clear qD0 qD1 jD
    replace KC : Hid (Blk v4 (gC) 25 [.slice (some ⟨a1, o1, none⟩) t.lines.length c0, .int .i64 t.hand]) := Lib.hid (KC.out.chg X4.out (by omega))
    replace KD : Hid (Blk v4 (gD) 25 [.slice (some ⟨b1, o2, none⟩) u.lines.length c1, .int .i64 u.hand]) := Lib.hid (KD.out.chg X4.out (by omega))
    clear hv4
    refine (C4.out _ c1 _ (HR1.out.ex X4.out.ex_) hfew hle1 hca1).mono ?_; rintro r w4 ⟨A4, c4, rfl, hf4, hb4⟩
    have Y4 : Hid (Chg 0 0 v4 w4) := Lib.hid (Chg.of_ex hb4)
    have s4 : v4.heap.size ≤ w4.heap.size := Y4.out.size
    have Ew4 : Hid (Ex w w4) := Lib.hid (Ev4.out.chg Y4.out (by omega))
    clear hb4
    replace KC : Hid (Blk w4 (gC) 25 [.slice (some ⟨a1, o1, none⟩) t.lines.length c0, .int .i64 t.hand]) := Lib.hid (KC.out.chg Y4.out (by omega))
    replace KD : Hid (Blk w4 (gD) 25 [.slice (some ⟨b1, o2, none⟩) u.lines.length c1, .int .i64 u.hand]) := Lib.hid (KD.out.chg Y4.out (by omega))
    have HF4 := Lib.hid hf4; clear hf4
    have WHF4 := Lib.hid HF4.out.row
    obtain ⟨qC0, qC1⟩ := KC.out.c2
    have jC := KC.out.lt
    obtain ⟨qD0, qD1⟩ := KD.out.c2
    have jD := KD.out.lt
    go_wp2_with fail
    refine name_calls ?_; intro v5 hv5
    have X5 : Hid (Chg (0) (0) w4 v5) := Lib.hid (by rw [hv5]; repeat' (first | with_reducible exact Chg.refl _ _ _ | with_reducible refine Chg.alloc ?_ _ | with_reducible refine Chg.drew ?_ | with_reducible refine Chg.set ?_ (by omega) _))
    have t5 : w4.heap.size ≤ v5.heap.size := X5.out.size
    have Ev5 : Hid (Ex w v5) := Lib.hid (Ew4.out.chg X5.out (by omega))
    clear qC0 qC1 jC
    clear qD0 qD1 jD
    replace KC : Hid (Blk v5 (gC) 25 [.slice (some ⟨a1, o1, none⟩) t.lines.length c0, .int .i64 t.hand]) := Lib.hid (KC.out.chg X5.out (by omega))
    replace KD : Hid (Blk v5 (gD) 25 [.slice (some ⟨b1, o2, none⟩) u.lines.length c1, .int .i64 u.hand]) := Lib.hid (KD.out.chg X5.out (by omega))
    replace HF4 := Lib.hid (HF4.out.chg X5.out WHF4.out (by omega))
    have KE : Hid (Blk v5 (w4.heap.size) 25 [.slice A4 u.lines.length c4, .int .i64 u.hand]) := Lib.hid (by rw [hv5]; repeat' (first | with_reducible exact Blk.new_at _ _ _ (by simp) | with_reducible refine Blk.alloc ?_ _ | with_reducible refine Blk.drew ?_ | with_reducible refine Blk.far ?_ (by simp; omega) _))
    have lE : w4.heap.size < v5.heap.size := KE.out.lt
    clear hv5
    have HR5 : Hid (Rd v5 (some ⟨b1, o2, none⟩) u.lines) := Lib.hid (HR1.out.ex (((X4.out.ex_).trans Y4.out.ex_).trans X5.out.ex_))
    refine (cacheSameI_c u u _ _ _ _ _ HF4.out.rd HR5.out hfew hfew).mono ?_
    rintro r w5 ⟨rfl, hb5⟩
    rw [eqB_self]
    go_wp2
    go_ret
    exact ⟨rfl, Ev5.out.trans hb5⟩
end Go.Proofs.Ytcaaficjcghheab
