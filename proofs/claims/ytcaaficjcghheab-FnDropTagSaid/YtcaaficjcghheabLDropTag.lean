/- The law FnDropTag: the walk. -/
import Derived.Test.YtcaaficjcghheabDj
import Derived.Test.YtcaaficjcghheabCu
namespace Go.Proofs.Ytcaaficjcghheab
open Go.ChangeShapes Go.WideShapes Go.ChangeAt Go.RowKit
open Rec (sz cs)
set_option linter.unusedVariables false
set_option maxRecDepth 100000

theorem tag_cases {v w : Bool} {a b : Int} (h : ¬ (v = true ∧ (a == b) = true ∧ w = false)) : v = false ∨ (v = true ∧ (a == b) = false) ∨ (v = true ∧ (a == b) = true ∧ w = true) := by
  cases v
  · exact .inl rfl
  · cases e : (a == b)
    · exact .inr (.inl ⟨rfl, rfl⟩)
    · cases w
      · exact absurd ⟨rfl, e, rfl⟩ h
      · exact .inr (.inr ⟨rfl, rfl, rfl⟩)

/-- What holds at the head of the law's loop. -/
def TagRound (t u : CacheD) (gC gD a1 o1 c0 b1 o2 c1 : Nat) (w : World) (i : Value) (wr : World) : Prop := ∃ k : Nat, k ≤ u.lines.length ∧ i = .int .i64 k ∧ Ex w wr ∧ Blk wr gC 25 [.slice (some ⟨a1, o1, none⟩) t.lines.length c0, .int .i64 t.hand] ∧
  Blk wr gD 25 [.slice (some ⟨b1, o2, none⟩) u.lines.length c1, .int .i64 u.hand] ∧ Rd wr (some ⟨a1, o1, none⟩) t.lines ∧ Rd wr (some ⟨b1, o2, none⟩) u.lines

set_option maxHeartbeats 16000000 in
theorem walk_FnDropTag (A : Option Addr) (n c : Nat) (bs : List ByteD) (w : World) (hr : Rd w A bs) (hc : Bytes bs ∧ bs.length = n ∧ n ≤ c ∧ c ≤ maxLen) :
    Calls Try.prog 7 #[.slice A n c] w fun r w' => r = .returned (.bool true) ∧ Ex w w' := by
  obtain ⟨hb, rfl, hnc, hcm⟩ := hc
  by_cases hbig : 1048576 < bs.length
  · have hbig' : (1048576 : Int) < (bs.length : Int) := by omega
    unfold maxLen at hcm
    generalize bs.length = n at *
    go_enter Try.func7, Try.ntmps7
    go_wp2
    go_ret
    exact ⟨rfl, Ex.refl _⟩
  have hsm : ¬ (1048576 : Int) < (bs.length : Int) := by omega
  have C0 := Lib.hid (fun w' (h : Ex w w') => drawDropTag_c A c bs w' (hr.ex h) hb (by omega) hnc hcm)
  have hcm' := hcm
  unfold maxLen at hcm'
  generalize bs.length = n at *
  clear hr hb hcm
  go_enter Try.func7, Try.ntmps7
  go_wp2_with fail
  refine name_calls ?_; intro v0 hv0
  have X0 : Hid (Chg (0) (0) w v0) := Lib.hid (by rw [hv0]; repeat' (first | with_reducible exact Chg.refl _ _ _ | with_reducible refine Chg.alloc ?_ _ | with_reducible refine Chg.drew ?_ | with_reducible refine Chg.set ?_ (by omega) _))
  have t0 : w.heap.size ≤ v0.heap.size := X0.out.size
  have Ev0 : Hid (Ex w v0) := Lib.hid ((Ex.refl w).chg X0.out (by omega))
  clear hv0
  refine (C0.out _ Ev0.out).mono ?_; rintro r w0 ⟨t, tag, A0, c0, rfl, hww, hf0, hb0⟩
  have Y0 : Hid (Chg 0 0 v0 w0) := Lib.hid (Chg.of_ex hb0)
  have s0 : v0.heap.size ≤ w0.heap.size := Y0.out.size
  have Ew0 : Hid (Ex w w0) := Lib.hid (Ev0.out.chg Y0.out (by omega))
  clear hb0
  have HF0 := Lib.hid hf0; clear hf0
  have WHF0 := Lib.hid HF0.out.row
  have hn : t.lines.length ≤ 1048576 := by have := hww.1; omega
  have C1 := Lib.hid (dropTagI_c t tag)
  have C2 := Lib.hid (dropTagS_c t tag)
  have hfew := dropTag_few t tag hn
  have HOK : Hid (∀ u, dropTag t tag = (u, true) → CV t ∧ tagB tag = true ∧ u = dropIf t (fun x => x.tag == tag)) := Lib.hid (fun u h => by
    obtain ⟨h1, h2⟩ := dropTag_ok (by rw [h])
    rw [dropTag_eq h1 h2] at h
    injection h with h3 h4
    exact ⟨h1, h2, h3.symm⟩)
  generalize dropTag t tag = q at C1 C2 hfew HOK
  obtain ⟨u, ok⟩ := q
  dsimp only at C1 C2 hfew
  clear hww C0
  cases ok
  · skip
    go_wp2_with fail
    refine name_calls ?_; intro v1 hv1
    have X1 : Hid (Chg (0) (0) w0 v1) := Lib.hid (by rw [hv1]; repeat' (first | with_reducible exact Chg.refl _ _ _ | with_reducible refine Chg.alloc ?_ _ | with_reducible refine Chg.drew ?_ | with_reducible refine Chg.set ?_ (by omega) _))
    have t1 : w0.heap.size ≤ v1.heap.size := X1.out.size
    have Ev1 : Hid (Ex w v1) := Lib.hid (Ew0.out.chg X1.out (by omega))
    replace HF0 := Lib.hid (HF0.out.chg X1.out WHF0.out (by omega))
    have KC : Hid (Blk v1 (w0.heap.size) 25 [.slice A0 t.lines.length c0, .int .i64 t.hand]) := Lib.hid (by rw [hv1]; repeat' (first | with_reducible exact Blk.new_at _ _ _ (by simp) | with_reducible refine Blk.alloc ?_ _ | with_reducible refine Blk.drew ?_ | with_reducible refine Blk.far ?_ (by simp; omega) _))
    have lC : w0.heap.size < v1.heap.size := KC.out.lt
    clear hv1
    refine (C1.out _ c0 _ HF0.out.rd hn HF0.out.le HF0.out.cap).mono ?_; rintro r w1 ⟨A1, c1, rfl, hf1, hb1⟩
    have Y1 : Hid (Chg 0 0 v1 w1) := Lib.hid (Chg.of_ex hb1)
    have s1 : v1.heap.size ≤ w1.heap.size := Y1.out.size
    have Ew1 : Hid (Ex w w1) := Lib.hid (Ev1.out.chg Y1.out (by omega))
    clear hb1
    replace KC : Hid (Blk w1 (w0.heap.size) 25 [.slice A0 t.lines.length c0, .int .i64 t.hand]) := Lib.hid (KC.out.chg Y1.out (by omega))
    replace HF0 := Lib.hid (HF0.out.chg Y1.out WHF0.out (by omega))
    have HF1 := Lib.hid hf1; clear hf1
    have WHF1 := Lib.hid HF1.out.row
    obtain ⟨qC0, qC1⟩ := KC.out.c2
    have jC := KC.out.lt
    go_wp2_with fail
    refine name_calls ?_; intro v2 hv2
    have X2 : Hid (Chg (0) (0) w1 v2) := Lib.hid (by rw [hv2]; repeat' (first | with_reducible exact Chg.refl _ _ _ | with_reducible refine Chg.alloc ?_ _ | with_reducible refine Chg.drew ?_ | with_reducible refine Chg.set ?_ (by omega) _))
    have t2 : w1.heap.size ≤ v2.heap.size := X2.out.size
    have Ev2 : Hid (Ex w v2) := Lib.hid (Ew1.out.chg X2.out (by omega))
    clear qC0 qC1 jC
    replace KC : Hid (Blk v2 (w0.heap.size) 25 [.slice A0 t.lines.length c0, .int .i64 t.hand]) := Lib.hid (KC.out.chg X2.out (by omega))
    replace HF0 := Lib.hid (HF0.out.chg X2.out WHF0.out (by omega))
    replace HF1 := Lib.hid (HF1.out.chg X2.out WHF1.out (by omega))
    have KD : Hid (Blk v2 (w1.heap.size) 25 [.slice A1 u.lines.length c1, .int .i64 u.hand]) := Lib.hid (by rw [hv2]; repeat' (first | with_reducible exact Blk.new_at _ _ _ (by simp) | with_reducible refine Blk.alloc ?_ _ | with_reducible refine Blk.drew ?_ | with_reducible refine Blk.far ?_ (by simp; omega) _))
    have lD : w1.heap.size < v2.heap.size := KD.out.lt
    clear hv2
    refine (C2.out _ c0 _ HF0.out.rd hn HF0.out.le HF0.out.cap).mono ?_; rintro r w2 ⟨A2, c2, rfl, hf2, hb2⟩
    have Y2 : Hid (Chg 0 0 v2 w2) := Lib.hid (Chg.of_ex hb2)
    have s2 : v2.heap.size ≤ w2.heap.size := Y2.out.size
    have Ew2 : Hid (Ex w w2) := Lib.hid (Ev2.out.chg Y2.out (by omega))
    clear hb2
    replace KC : Hid (Blk w2 (w0.heap.size) 25 [.slice A0 t.lines.length c0, .int .i64 t.hand]) := Lib.hid (KC.out.chg Y2.out (by omega))
    replace KD : Hid (Blk w2 (w1.heap.size) 25 [.slice A1 u.lines.length c1, .int .i64 u.hand]) := Lib.hid (KD.out.chg Y2.out (by omega))
    replace HF0 := Lib.hid (HF0.out.chg Y2.out WHF0.out (by omega))
    replace HF1 := Lib.hid (HF1.out.chg Y2.out WHF1.out (by omega))
    have HF2 := Lib.hid hf2; clear hf2
    have WHF2 := Lib.hid HF2.out.row
    obtain ⟨qC0, qC1⟩ := KC.out.c2
    have jC := KC.out.lt
    obtain ⟨qD0, qD1⟩ := KD.out.c2
    have jD := KD.out.lt
    go_wp2_with fail
    refine name_calls ?_; intro v3 hv3
    have X3 : Hid (Chg (0) (0) w2 v3) := Lib.hid (by rw [hv3]; repeat' (first | with_reducible exact Chg.refl _ _ _ | with_reducible refine Chg.alloc ?_ _ | with_reducible refine Chg.drew ?_ | with_reducible refine Chg.set ?_ (by omega) _))
    have t3 : w2.heap.size ≤ v3.heap.size := X3.out.size
    have Ev3 : Hid (Ex w v3) := Lib.hid (Ew2.out.chg X3.out (by omega))
    clear qC0 qC1 jC
    clear qD0 qD1 jD
    replace KC : Hid (Blk v3 (w0.heap.size) 25 [.slice A0 t.lines.length c0, .int .i64 t.hand]) := Lib.hid (KC.out.chg X3.out (by omega))
    replace KD : Hid (Blk v3 (w1.heap.size) 25 [.slice A1 u.lines.length c1, .int .i64 u.hand]) := Lib.hid (KD.out.chg X3.out (by omega))
    replace HF0 := Lib.hid (HF0.out.chg X3.out WHF0.out (by omega))
    replace HF1 := Lib.hid (HF1.out.chg X3.out WHF1.out (by omega))
    replace HF2 := Lib.hid (HF2.out.chg X3.out WHF2.out (by omega))
    have KW : Hid (Blk v3 (w2.heap.size) 25 [.slice A2 u.lines.length c2, .int .i64 u.hand]) := Lib.hid (by rw [hv3]; repeat' (first | with_reducible exact Blk.new_at _ _ _ (by simp) | with_reducible refine Blk.alloc ?_ _ | with_reducible refine Blk.drew ?_ | with_reducible refine Blk.far ?_ (by simp; omega) _))
    have lW : w2.heap.size < v3.heap.size := KW.out.lt
    clear hv3
    refine (cacheSameI_c u u _ _ _ _ _ HF1.out.rd HF2.out.rd hfew hfew).mono ?_; rintro r w3 ⟨rfl, hb3⟩
    have Y3 : Hid (Chg 0 0 v3 w3) := Lib.hid (Chg.of_ex hb3)
    have s3 : v3.heap.size ≤ w3.heap.size := Y3.out.size
    have Ew3 : Hid (Ex w w3) := Lib.hid (Ev3.out.chg Y3.out (by omega))
    clear hb3
    replace KC : Hid (Blk w3 (w0.heap.size) 25 [.slice A0 t.lines.length c0, .int .i64 t.hand]) := Lib.hid (KC.out.chg Y3.out (by omega))
    replace KD : Hid (Blk w3 (w1.heap.size) 25 [.slice A1 u.lines.length c1, .int .i64 u.hand]) := Lib.hid (KD.out.chg Y3.out (by omega))
    replace KW : Hid (Blk w3 (w2.heap.size) 25 [.slice A2 u.lines.length c2, .int .i64 u.hand]) := Lib.hid (KW.out.chg Y3.out (by omega))
    replace HF0 := Lib.hid (HF0.out.chg Y3.out WHF0.out (by omega))
    replace HF1 := Lib.hid (HF1.out.chg Y3.out WHF1.out (by omega))
    replace HF2 := Lib.hid (HF2.out.chg Y3.out WHF2.out (by omega))
    obtain ⟨qC0, qC1⟩ := KC.out.c2
    have jC := KC.out.lt
    obtain ⟨qD0, qD1⟩ := KD.out.c2
    have jD := KD.out.lt
    obtain ⟨qW0, qW1⟩ := KW.out.c2
    have jW := KW.out.lt
    rw [eqB_self]
    go_wp2_with fail
    refine name_calls ?_; intro v4 hv4
    have X4 : Hid (Chg (0) (0) w3 v4) := Lib.hid (by rw [hv4]; repeat' (first | with_reducible exact Chg.refl _ _ _ | with_reducible refine Chg.alloc ?_ _ | with_reducible refine Chg.drew ?_ | with_reducible refine Chg.set ?_ (by omega) _))
    have t4 : w3.heap.size ≤ v4.heap.size := X4.out.size
    have Ev4 : Hid (Ex w v4) := Lib.hid (Ew3.out.chg X4.out (by omega))
    clear qC0 qC1 jC
    clear qD0 qD1 jD
    clear qW0 qW1 jW
    replace KC : Hid (Blk v4 (w0.heap.size) 25 [.slice A0 t.lines.length c0, .int .i64 t.hand]) := Lib.hid (KC.out.chg X4.out (by omega))
    replace KD : Hid (Blk v4 (w1.heap.size) 25 [.slice A1 u.lines.length c1, .int .i64 u.hand]) := Lib.hid (KD.out.chg X4.out (by omega))
    replace KW : Hid (Blk v4 (w2.heap.size) 25 [.slice A2 u.lines.length c2, .int .i64 u.hand]) := Lib.hid (KW.out.chg X4.out (by omega))
    replace HF0 := Lib.hid (HF0.out.chg X4.out WHF0.out (by omega))
    replace HF1 := Lib.hid (HF1.out.chg X4.out WHF1.out (by omega))
    replace HF2 := Lib.hid (HF2.out.chg X4.out WHF2.out (by omega))
    clear hv4
    refine (cacheSameI_c u u _ _ _ _ _ HF1.out.rd HF2.out.rd hfew hfew).mono ?_; rintro r w4 ⟨rfl, hb4⟩
    have Y4 : Hid (Chg 0 0 v4 w4) := Lib.hid (Chg.of_ex hb4)
    have s4 : v4.heap.size ≤ w4.heap.size := Y4.out.size
    have Ew4 : Hid (Ex w w4) := Lib.hid (Ev4.out.chg Y4.out (by omega))
    clear hb4
    replace KC : Hid (Blk w4 (w0.heap.size) 25 [.slice A0 t.lines.length c0, .int .i64 t.hand]) := Lib.hid (KC.out.chg Y4.out (by omega))
    replace KD : Hid (Blk w4 (w1.heap.size) 25 [.slice A1 u.lines.length c1, .int .i64 u.hand]) := Lib.hid (KD.out.chg Y4.out (by omega))
    replace KW : Hid (Blk w4 (w2.heap.size) 25 [.slice A2 u.lines.length c2, .int .i64 u.hand]) := Lib.hid (KW.out.chg Y4.out (by omega))
    replace HF0 := Lib.hid (HF0.out.chg Y4.out WHF0.out (by omega))
    replace HF1 := Lib.hid (HF1.out.chg Y4.out WHF1.out (by omega))
    replace HF2 := Lib.hid (HF2.out.chg Y4.out WHF2.out (by omega))
    obtain ⟨qC0, qC1⟩ := KC.out.c2
    have jC := KC.out.lt
    obtain ⟨qD0, qD1⟩ := KD.out.c2
    have jD := KD.out.lt
    obtain ⟨qW0, qW1⟩ := KW.out.c2
    have jW := KW.out.lt
    rw [eqB_self]
    go_wp2
    go_ret
    exact ⟨rfl, (by repeat' (first | with_reducible exact Ew4.out | with_reducible refine Ex.alloc ?_ _ | with_reducible refine Ex.drew ?_ | with_reducible refine Ex.put ?_ (by omega) _))⟩
  obtain ⟨hcv, htb, hu⟩ := HOK.out u rfl

  have h1 := hcv.n1
  have HUV : Hid (cacheV u = true) := Lib.hid (by rw [(cv_iff u).2]; rw [hu]; exact dropIf_cv hcv _)
  have huh : u.hand = t.hand := by rw [hu]; rfl
  have hul : u.lines.length = t.lines.length := by rw [hu, dropIf_len]
  have HUK : Hid (∀ (j : Nat) (x : LineD), t.lines[j]? = some x → u.lines[j]? = some (dropL (fun x => x.tag == tag) x) ∧ (x.valid = false → x = noLine)) := Lib.hid (fun j x hx => ⟨by rw [hu]; unfold dropIf; simp only [List.getElem?_map, hx, Option.map_some], fun h => lineV_no (hcv.ok j x hx) h⟩)
  clear hcv htb hu
  have HUL := Lib.hid hul
  have hhd : (u.hand == t.hand) = true := by simp [huh]
  have hu0 : 0 < u.lines.length := by omega
  clear hul huh
  obtain ⟨a1, o1, hA, -, -⟩ := HF0.out.rd (by omega)
  subst hA

  go_wp2_with fail
  refine name_calls ?_; intro v1 hv1
  have X1 : Hid (Chg (0) (0) w0 v1) := Lib.hid (by rw [hv1]; repeat' (first | with_reducible exact Chg.refl _ _ _ | with_reducible refine Chg.alloc ?_ _ | with_reducible refine Chg.drew ?_ | with_reducible refine Chg.set ?_ (by omega) _))
  have t1 : w0.heap.size ≤ v1.heap.size := X1.out.size
  have Ev1 : Hid (Ex w v1) := Lib.hid (Ew0.out.chg X1.out (by omega))
  replace HF0 := Lib.hid (HF0.out.chg X1.out WHF0.out (by omega))
  have KC : Hid (Blk v1 (w0.heap.size) 25 [.slice (some ⟨a1, o1, none⟩) t.lines.length c0, .int .i64 t.hand]) := Lib.hid (by rw [hv1]; repeat' (first | with_reducible exact Blk.new_at _ _ _ (by simp) | with_reducible refine Blk.alloc ?_ _ | with_reducible refine Blk.drew ?_ | with_reducible refine Blk.far ?_ (by simp; omega) _))
  have lC : w0.heap.size < v1.heap.size := KC.out.lt
  clear hv1
  refine (C1.out _ c0 _ HF0.out.rd hn HF0.out.le HF0.out.cap).mono ?_; rintro r w1 ⟨A1, c1, rfl, hf1, hb1⟩
  have Y1 : Hid (Chg 0 0 v1 w1) := Lib.hid (Chg.of_ex hb1)
  have s1 : v1.heap.size ≤ w1.heap.size := Y1.out.size
  have Ew1 : Hid (Ex w w1) := Lib.hid (Ev1.out.chg Y1.out (by omega))
  clear hb1
  replace KC : Hid (Blk w1 (w0.heap.size) 25 [.slice (some ⟨a1, o1, none⟩) t.lines.length c0, .int .i64 t.hand]) := Lib.hid (KC.out.chg Y1.out (by omega))
  replace HF0 := Lib.hid (HF0.out.chg Y1.out WHF0.out (by omega))
  have HF1 := Lib.hid hf1; clear hf1
  have WHF1 := Lib.hid HF1.out.row
  obtain ⟨qC0, qC1⟩ := KC.out.c2
  have jC := KC.out.lt
  go_wp2_with fail
  refine name_calls ?_; intro v2 hv2
  have X2 : Hid (Chg (0) (0) w1 v2) := Lib.hid (by rw [hv2]; repeat' (first | with_reducible exact Chg.refl _ _ _ | with_reducible refine Chg.alloc ?_ _ | with_reducible refine Chg.drew ?_ | with_reducible refine Chg.set ?_ (by omega) _))
  have t2 : w1.heap.size ≤ v2.heap.size := X2.out.size
  have Ev2 : Hid (Ex w v2) := Lib.hid (Ew1.out.chg X2.out (by omega))
  clear qC0 qC1 jC
  replace KC : Hid (Blk v2 (w0.heap.size) 25 [.slice (some ⟨a1, o1, none⟩) t.lines.length c0, .int .i64 t.hand]) := Lib.hid (KC.out.chg X2.out (by omega))
  replace HF0 := Lib.hid (HF0.out.chg X2.out WHF0.out (by omega))
  replace HF1 := Lib.hid (HF1.out.chg X2.out WHF1.out (by omega))
  have KD : Hid (Blk v2 (w1.heap.size) 25 [.slice A1 u.lines.length c1, .int .i64 u.hand]) := Lib.hid (by rw [hv2]; repeat' (first | with_reducible exact Blk.new_at _ _ _ (by simp) | with_reducible refine Blk.alloc ?_ _ | with_reducible refine Blk.drew ?_ | with_reducible refine Blk.far ?_ (by simp; omega) _))
  have lD : w1.heap.size < v2.heap.size := KD.out.lt
  clear hv2
  refine (C2.out _ c0 _ HF0.out.rd hn HF0.out.le HF0.out.cap).mono ?_; rintro r w2 ⟨A2, c2, rfl, hf2, hb2⟩
  have Y2 : Hid (Chg 0 0 v2 w2) := Lib.hid (Chg.of_ex hb2)
  have s2 : v2.heap.size ≤ w2.heap.size := Y2.out.size
  have Ew2 : Hid (Ex w w2) := Lib.hid (Ev2.out.chg Y2.out (by omega))
  clear hb2
  replace KC : Hid (Blk w2 (w0.heap.size) 25 [.slice (some ⟨a1, o1, none⟩) t.lines.length c0, .int .i64 t.hand]) := Lib.hid (KC.out.chg Y2.out (by omega))
  replace KD : Hid (Blk w2 (w1.heap.size) 25 [.slice A1 u.lines.length c1, .int .i64 u.hand]) := Lib.hid (KD.out.chg Y2.out (by omega))
  replace HF0 := Lib.hid (HF0.out.chg Y2.out WHF0.out (by omega))
  replace HF1 := Lib.hid (HF1.out.chg Y2.out WHF1.out (by omega))
  have HF2 := Lib.hid hf2; clear hf2
  have WHF2 := Lib.hid HF2.out.row
  obtain ⟨qC0, qC1⟩ := KC.out.c2
  have jC := KC.out.lt
  obtain ⟨qD0, qD1⟩ := KD.out.c2
  have jD := KD.out.lt
  go_wp2_with fail
  refine name_calls ?_; intro v3 hv3
  have X3 : Hid (Chg (0) (0) w2 v3) := Lib.hid (by rw [hv3]; repeat' (first | with_reducible exact Chg.refl _ _ _ | with_reducible refine Chg.alloc ?_ _ | with_reducible refine Chg.drew ?_ | with_reducible refine Chg.set ?_ (by omega) _))
  have t3 : w2.heap.size ≤ v3.heap.size := X3.out.size
  have Ev3 : Hid (Ex w v3) := Lib.hid (Ew2.out.chg X3.out (by omega))
  clear qC0 qC1 jC
  clear qD0 qD1 jD
  replace KC : Hid (Blk v3 (w0.heap.size) 25 [.slice (some ⟨a1, o1, none⟩) t.lines.length c0, .int .i64 t.hand]) := Lib.hid (KC.out.chg X3.out (by omega))
  replace KD : Hid (Blk v3 (w1.heap.size) 25 [.slice A1 u.lines.length c1, .int .i64 u.hand]) := Lib.hid (KD.out.chg X3.out (by omega))
  replace HF0 := Lib.hid (HF0.out.chg X3.out WHF0.out (by omega))
  replace HF1 := Lib.hid (HF1.out.chg X3.out WHF1.out (by omega))
  replace HF2 := Lib.hid (HF2.out.chg X3.out WHF2.out (by omega))
  have KW : Hid (Blk v3 (w2.heap.size) 25 [.slice A2 u.lines.length c2, .int .i64 u.hand]) := Lib.hid (by rw [hv3]; repeat' (first | with_reducible exact Blk.new_at _ _ _ (by simp) | with_reducible refine Blk.alloc ?_ _ | with_reducible refine Blk.drew ?_ | with_reducible refine Blk.far ?_ (by simp; omega) _))
  have lW : w2.heap.size < v3.heap.size := KW.out.lt
  clear hv3
  refine (cacheSameI_c u u _ _ _ _ _ HF1.out.rd HF2.out.rd hfew hfew).mono ?_; rintro r w3 ⟨rfl, hb3⟩
  have Y3 : Hid (Chg 0 0 v3 w3) := Lib.hid (Chg.of_ex hb3)
  have s3 : v3.heap.size ≤ w3.heap.size := Y3.out.size
  have Ew3 : Hid (Ex w w3) := Lib.hid (Ev3.out.chg Y3.out (by omega))
  clear hb3
  replace KC : Hid (Blk w3 (w0.heap.size) 25 [.slice (some ⟨a1, o1, none⟩) t.lines.length c0, .int .i64 t.hand]) := Lib.hid (KC.out.chg Y3.out (by omega))
  replace KD : Hid (Blk w3 (w1.heap.size) 25 [.slice A1 u.lines.length c1, .int .i64 u.hand]) := Lib.hid (KD.out.chg Y3.out (by omega))
  replace KW : Hid (Blk w3 (w2.heap.size) 25 [.slice A2 u.lines.length c2, .int .i64 u.hand]) := Lib.hid (KW.out.chg Y3.out (by omega))
  replace HF0 := Lib.hid (HF0.out.chg Y3.out WHF0.out (by omega))
  replace HF1 := Lib.hid (HF1.out.chg Y3.out WHF1.out (by omega))
  replace HF2 := Lib.hid (HF2.out.chg Y3.out WHF2.out (by omega))
  obtain ⟨qC0, qC1⟩ := KC.out.c2
  have jC := KC.out.lt
  obtain ⟨qD0, qD1⟩ := KD.out.c2
  have jD := KD.out.lt
  obtain ⟨qW0, qW1⟩ := KW.out.c2
  have jW := KW.out.lt
  rw [eqB_self]
  clear qW0 qW1 jW
  clear KW
  clear HF2 WHF2

  obtain ⟨b1, o2, hA1, -, -⟩ := HF1.out.rd hu0
  have hle1 := HF1.out.le
  subst hA1
  obtain ⟨gC, hgC⟩ : ∃ gC, gC = w0.heap.size := ⟨_, rfl⟩
  obtain ⟨gD, hgD⟩ : ∃ gD, gD = w1.heap.size := ⟨_, rfl⟩
  have HST : Hid (TagRound t u gC gD a1 o1 c0 b1 o2 c1 w (.int .i64 0) w3) := Lib.hid ⟨0, Nat.zero_le _, rfl, Ew3.out, by rw [hgC]; exact KC.out, by rw [hgD]; exact KD.out, HF0.out.rd, HF1.out.rd⟩
  rw [← hgC] at KC qC0 qC1 jC ⊢
  rw [← hgD] at KD qD0 qD1 jD ⊢
  clear hgC hgD
  go_wp2
  clear qC0 qC1 jC qD0 qD1 jD KC KD HF0 HF1 WHF0 WHF1
  go_loopw [9] (fun i wr => TagRound t u gC gD a1 o1 c0 b1 o2 c1 w i wr) (fun i _ => u.lines.length - (intOf i).toNat)
  case atStart => exact HST.out
  case round =>
    clear HST
    obtain ⟨k, hk, rfl, hex, hkc, hkd, hr0, hr1⟩ := hrel
    have Ewr := Lib.hid hex
    have KC := Lib.hid hkc
    have KD := Lib.hid hkd
    have HR0 := Lib.hid hr0
    have HR1 := Lib.hid hr1
    clear hex hkc hkd hr0 hr1
    obtain ⟨qC0, qC1⟩ := KC.out.c2
    have jC := KC.out.lt
    obtain ⟨qD0, qD1⟩ := KD.out.c2
    have jD := KD.out.lt
    by_cases hlt : k < u.lines.length
    · have hltt : k < t.lines.length := by rw [← HUL.out]; exact hlt
      have hk0 : ¬ ((k : Int) < 0) := by omega
      have hk1 : (k : Int) < (t.lines.length : Int) := by omega
      have hk2 : (k : Int) < (u.lines.length : Int) := by omega
      obtain ⟨x1, hb1, hx1, g0, g1, g2, g3, g4, g5⟩ := Rd.line_known HR0.out (k := k) hltt
      obtain ⟨x2, hb2, hx2, e0, e1, e2, e3, e4, e5⟩ := Rd.line_known HR1.out (k := k) hlt
      obtain ⟨hux, hnl⟩ := HUK.out k x1 hx1
      have hx2e : x2 = dropL (fun x => x.tag == tag) x1 := by rw [hux] at hx2; injection hx2 with hx2; exact hx2.symm
      subst hx2e
      have HNL := Lib.hid hnl
      clear hx1 hx2 hux hnl
      have hgd := guardLine
      obtain ⟨yv, yt, yp, yf, yr, yw⟩ := x1
      dsimp only at g0 g1 g2 g3 g4 g5
      by_cases hdr : yv = true ∧ (yt == tag) = true ∧ yw = false
      · obtain ⟨rfl, htg, rfl⟩ := hdr
        have hd : dropL (fun x => x.tag == tag) (⟨true, yt, yp, yf, yr, false⟩ : LineD) = noLine := by unfold dropL; simp only [htg]; rfl
        rw [hd] at e0 e1 e2 e3 e4 e5
        have hneq := neq_line noLine noLine
        rw [eqB_self] at hneq
        dsimp only [noLine] at e0 e1 e2 e3 e4 e5 hneq
        simp only [Bool.not_true] at hneq
        clear hd
        go_wp2
        go_roundw
        case rel => exact ⟨k + 1, by omega, by go_num, Ewr.out.alloc _, KC.out.alloc _, KD.out.alloc _, HR0.out.alloc _, HR1.out.alloc _⟩
        case measure => simp [intOf]; omega
      · have hd : dropL (fun x => x.tag == tag) (⟨yv, yt, yp, yf, yr, yw⟩ : LineD) = ⟨yv, yt, yp, yf, yr, yw⟩ := by
          cases yv
          · have := HNL.out rfl
            rw [this]
            unfold dropL; split <;> rfl
          · unfold dropL
            cases hw : yw
            · cases htg : (yt == tag)
              · simp [htg]
              · exact absurd ⟨rfl, htg, hw⟩ hdr
            · simp
        rw [hd] at e0 e1 e2 e3 e4 e5
        dsimp only at e0 e1 e2 e3 e4 e5
        have hneq := neq_line (⟨yv, yt, yp, yf, yr, yw⟩ : LineD) ⟨yv, yt, yp, yf, yr, yw⟩
        rw [eqB_self] at hneq
        simp only [Bool.not_true] at hneq
        clear hd
        rcases tag_cases hdr with rfl | ⟨rfl, htg⟩ | ⟨rfl, htg, rfl⟩
        all_goals
          clear hdr
          go_wp2_with fail
          go_quiet (fail)
          clear hneq hgd
          go_wp2
          go_roundw
          case rel => exact ⟨k + 1, by omega, by go_num, (Ewr.out.alloc _).drewN _, (KC.out.alloc _).drewN _, (KD.out.alloc _).drewN _, (HR0.out.alloc _).drewN _, (HR1.out.alloc _).drewN _⟩
          case measure => simp [intOf]; omega
    have hge : ¬ (k : Int) < (u.lines.length : Int) := by omega
    go_wp2_with fail
    refine name_calls ?_; intro v4 hv4
    have X4 : Hid (Chg (0) (0) wr v4) := Lib.hid (by rw [hv4]; repeat' (first | with_reducible exact Chg.refl _ _ _ | with_reducible refine Chg.alloc ?_ _ | with_reducible refine Chg.drew ?_ | with_reducible refine Chg.set ?_ (by omega) _))
    have t4 : wr.heap.size ≤ v4.heap.size := X4.out.size
    have Ev4 : Hid (Ex w v4) := Lib.hid (Ewr.out.chg X4.out (by omega))
    clear qC0 qC1 jC
    clear qD0 qD1 jD
    replace KC : Hid (Blk v4 (gC) 25 [.slice (some ⟨a1, o1, none⟩) t.lines.length c0, .int .i64 t.hand]) := Lib.hid (KC.out.chg X4.out (by omega))
    replace KD : Hid (Blk v4 (gD) 25 [.slice (some ⟨b1, o2, none⟩) u.lines.length c1, .int .i64 u.hand]) := Lib.hid (KD.out.chg X4.out (by omega))
    clear hv4
    refine (cacheValidI_c u _ c1 _ (HR1.out.ex X4.out.ex_) hfew hle1).mono ?_; rintro r w4 ⟨rfl, hb4⟩
    have Y4 : Hid (Chg 0 0 v4 w4) := Lib.hid (Chg.of_ex hb4)
    have s4 : v4.heap.size ≤ w4.heap.size := Y4.out.size
    have Ew4 : Hid (Ex w w4) := Lib.hid (Ev4.out.chg Y4.out (by omega))
    clear hb4
    replace KC : Hid (Blk w4 (gC) 25 [.slice (some ⟨a1, o1, none⟩) t.lines.length c0, .int .i64 t.hand]) := Lib.hid (KC.out.chg Y4.out (by omega))
    replace KD : Hid (Blk w4 (gD) 25 [.slice (some ⟨b1, o2, none⟩) u.lines.length c1, .int .i64 u.hand]) := Lib.hid (KD.out.chg Y4.out (by omega))
    obtain ⟨qC0, qC1⟩ := KC.out.c2
    have jC := KC.out.lt
    obtain ⟨qD0, qD1⟩ := KD.out.c2
    have jD := KD.out.lt
    rw [HUV.out]
    go_wp2
    go_ret
    exact ⟨rfl, Ew4.out⟩
end Go.Proofs.Ytcaaficjcghheab
