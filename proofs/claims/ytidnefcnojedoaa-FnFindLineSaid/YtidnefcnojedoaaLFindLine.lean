/- The law FnFindLine: the walk. -/
import Derived.Test.YtidnefcnojedoaaDj
import Derived.Test.YtidnefcnojedoaaPl
namespace Go.Proofs.Ytidnefcnojedoaa
open Go.ChangeShapes Go.WideShapes Go.ChangeAt Go.RowKit
open Rec (sz cs)
set_option linter.unusedVariables false
set_option maxRecDepth 100000

/-- How many of the first k lines fit, if the one that fits is at p. -/
def cntF (p : Int) (k : Nat) : Int := if 0 ≤ p ∧ p < (k : Int) then 1 else 0
theorem cntF_zero (p : Int) : cntF p 0 = 0 := by unfold cntF; rw [if_neg (by omega)]
theorem cntF_ge (p : Int) (k : Nat) : 0 ≤ cntF p k := by unfold cntF; split <;> omega
theorem cntF_le (p : Int) (k : Nat) : cntF p k ≤ 1 := by unfold cntF; split <;> omega
theorem cntF_step {p : Int} {k : Nat} {b : Bool} (h : b = decide ((k : Int) = p)) : cntF p (k + 1) = if b = true then cntF p k + 1 else cntF p k := by
  subst h
  unfold cntF
  have hd : (decide ((k : Int) = p) = true) ↔ (k : Int) = p := decide_eq_true_iff
  simp only [hd]
  repeat' split
  all_goals omega
theorem find_count {t : CacheD} (h : CV t) (tag page : Int) : ∃ p : Int, (∀ (j : Nat) (y : LineD), t.lines[j]? = some y → fitsB y tag page = decide ((j : Int) = p)) ∧
    ((cntF p t.lines.length = 0 ∧ (findLine t tag page).2 = false) ∨ (cntF p t.lines.length = 1 ∧ (findLine t tag page).2 = tagB tag)) := by
  by_cases hp : placeOf t.lines tag page < 0
  · have hn := place_neg hp
    refine ⟨-1, fun j y hy => by rw [hn j y hy]; symm; rw [decide_eq_false_iff_not]; omega, .inl ⟨by unfold cntF; rw [if_neg (by omega)], by rw [findLine_none hn]⟩⟩
  · have hq : ∃ (k : Nat) (x : LineD), t.lines[k]? = some x ∧ fitsB x tag page = true := by
      rcases firstOf_cases (fun x => fitsB x tag page) t.lines with ⟨e, _⟩ | ⟨k, x, e, hx, hf, hj⟩
      · exact absurd (show placeOf t.lines tag page < 0 by unfold placeOf; omega) hp
      · exact ⟨k, x, hx, hf⟩
    obtain ⟨k, x, hx, hf⟩ := hq
    have hk := getElem?_lt hx
    refine ⟨k, fun j y hy => ?_, .inr ⟨by unfold cntF; rw [if_pos (by omega)], ?_⟩⟩
    · by_cases e : j = k
      · subst e
        rw [hx] at hy
        injection hy with hy
        subst hy
        rw [hf]; simp
      · have : fitsB y tag page = false := by
          cases hy' : fitsB y tag page
          · rfl
          · have := h.ap k j x y (by omega) hx hy
            rw [fits_clash hf hy'] at this
            cases this
        rw [this]; symm; rw [decide_eq_false_iff_not]; omega
    · cases ht : tagB tag
      · unfold findLine
        rw [(cv_iff t).2 h, ht]; rfl
      · rw [findLine_found h ht hx hf]

/-- What holds at the head of the law's loop. -/
def FLRound (t : CacheD) (gC a1 o1 c0 : Nat) (p : Int) (w : World) (m i : Value) (wr : World) : Prop := ∃ k : Nat, k ≤ t.lines.length ∧ i = .int .i64 k ∧ m = .int .i64 (cntF p k) ∧ Ex w wr ∧ Blk wr gC 33 [.slice (some ⟨a1, o1, none⟩) t.lines.length c0, .int .i64 t.hand] ∧ Rd wr (some ⟨a1, o1, none⟩) t.lines

set_option maxHeartbeats 16000000 in
theorem walk_FnFindLine (A : Option Addr) (n c : Nat) (bs : List ByteD) (w : World) (hr : Rd w A bs) (hc : Bytes bs ∧ bs.length = n ∧ n ≤ c ∧ c ≤ maxLen) :
    Calls Try.prog 5 #[.slice A n c] w fun r w' => r = .returned (.bool true) ∧ Ex w w' := by
  obtain ⟨hb, rfl, hnc, hcm⟩ := hc
  by_cases hbig : 1048576 < bs.length
  · have hbig' : (1048576 : Int) < (bs.length : Int) := by omega
    unfold maxLen at hcm
    generalize bs.length = n at *
    go_enter Try.func5, Try.ntmps5
    go_wp2
    go_ret
    exact ⟨rfl, Ex.refl _⟩
  have hsm : ¬ (1048576 : Int) < (bs.length : Int) := by omega
  have C0 := Lib.hid (fun w' (h : Ex w w') => drawFindLine_c A c bs w' (hr.ex h) hb (by omega) hnc hcm)
  have hcm' := hcm
  unfold maxLen at hcm'
  generalize bs.length = n at *
  clear hr hb hcm
  go_enter Try.func5, Try.ntmps5
  go_wp2_with fail
  refine name_calls ?_; intro v0 hv0
  have X0 : Hid (Chg (0) (0) w v0) := Lib.hid (by rw [hv0]; repeat' (first | with_reducible exact Chg.refl _ _ _ | with_reducible refine Chg.alloc ?_ _ | with_reducible refine Chg.drew ?_ | with_reducible refine Chg.set ?_ (by omega) _))
  have t0 : w.heap.size ≤ v0.heap.size := X0.out.size
  have Ev0 : Hid (Ex w v0) := Lib.hid ((Ex.refl w).chg X0.out (by omega))
  clear hv0
  refine (C0.out _ Ev0.out).mono ?_; rintro r w0 ⟨t, tag, page, A0, c0, rfl, hww, hf0, hb0⟩
  have Y0 : Hid (Chg 0 0 v0 w0) := Lib.hid (Chg.of_ex hb0)
  have s0 : v0.heap.size ≤ w0.heap.size := Y0.out.size
  have Ew0 : Hid (Ex w w0) := Lib.hid (Ev0.out.chg Y0.out (by omega))
  clear hb0
  have HF0 := Lib.hid hf0; clear hf0
  have WHF0 := Lib.hid HF0.out.row
  have hn : t.lines.length ≤ 1048576 := by have := hww.1; omega
  have C1 := Lib.hid (findLineI_c t tag page)
  have C2 := Lib.hid (findLineS_c t tag page)
  have C3 := Lib.hid (cacheValidI_c t)
  clear hww C0

  cases hv : cacheV t
  · have e : findLine t tag page = (0, false) := by unfold findLine; rw [hv]; rfl
    rw [e] at C1 C2
    dsimp only at C1 C2
    rw [hv] at C3
    clear e
    go_wp2_with fail
    refine name_calls ?_; intro v1 hv1
    have X1 : Hid (Chg (0) (0) w0 v1) := Lib.hid (by rw [hv1]; repeat' (first | with_reducible exact Chg.refl _ _ _ | with_reducible refine Chg.alloc ?_ _ | with_reducible refine Chg.drew ?_ | with_reducible refine Chg.set ?_ (by omega) _))
    have t1 : w0.heap.size ≤ v1.heap.size := X1.out.size
    have Ev1 : Hid (Ex w v1) := Lib.hid (Ew0.out.chg X1.out (by omega))
    replace HF0 := Lib.hid (HF0.out.chg X1.out WHF0.out (by omega))
    have KC : Hid (Blk v1 (w0.heap.size) 33 [.slice A0 t.lines.length c0, .int .i64 t.hand]) := Lib.hid (by rw [hv1]; repeat' (first | with_reducible exact Blk.new_at _ _ _ (by simp) | with_reducible refine Blk.alloc ?_ _ | with_reducible refine Blk.drew ?_ | with_reducible refine Blk.far ?_ (by simp; omega) _))
    have lC : w0.heap.size < v1.heap.size := KC.out.lt
    clear hv1
    refine (C1.out A0 c0 _ HF0.out.rd hn HF0.out.le).mono ?_; rintro r w1 ⟨rfl, hb1⟩
    have Y1 : Hid (Chg 0 0 v1 w1) := Lib.hid (Chg.of_ex hb1)
    have s1 : v1.heap.size ≤ w1.heap.size := Y1.out.size
    have Ew1 : Hid (Ex w w1) := Lib.hid (Ev1.out.chg Y1.out (by omega))
    clear hb1
    replace KC : Hid (Blk w1 (w0.heap.size) 33 [.slice A0 t.lines.length c0, .int .i64 t.hand]) := Lib.hid (KC.out.chg Y1.out (by omega))
    replace HF0 := Lib.hid (HF0.out.chg Y1.out WHF0.out (by omega))
    obtain ⟨qC0, qC1⟩ := KC.out.c2
    have jC := KC.out.lt
    go_wp2_with fail
    refine name_calls ?_; intro v2 hv2
    have X2 : Hid (Chg (0) (0) w1 v2) := Lib.hid (by rw [hv2]; repeat' (first | with_reducible exact Chg.refl _ _ _ | with_reducible refine Chg.alloc ?_ _ | with_reducible refine Chg.drew ?_ | with_reducible refine Chg.set ?_ (by omega) _))
    have t2 : w1.heap.size ≤ v2.heap.size := X2.out.size
    have Ev2 : Hid (Ex w v2) := Lib.hid (Ew1.out.chg X2.out (by omega))
    clear qC0 qC1 jC
    replace KC : Hid (Blk v2 (w0.heap.size) 33 [.slice A0 t.lines.length c0, .int .i64 t.hand]) := Lib.hid (KC.out.chg X2.out (by omega))
    replace HF0 := Lib.hid (HF0.out.chg X2.out WHF0.out (by omega))
    clear hv2
    refine (C2.out A0 c0 _ HF0.out.rd hn HF0.out.le).mono ?_; rintro r w2 ⟨rfl, hb2⟩
    have Y2 : Hid (Chg 0 0 v2 w2) := Lib.hid (Chg.of_ex hb2)
    have s2 : v2.heap.size ≤ w2.heap.size := Y2.out.size
    have Ew2 : Hid (Ex w w2) := Lib.hid (Ev2.out.chg Y2.out (by omega))
    clear hb2
    replace KC : Hid (Blk w2 (w0.heap.size) 33 [.slice A0 t.lines.length c0, .int .i64 t.hand]) := Lib.hid (KC.out.chg Y2.out (by omega))
    replace HF0 := Lib.hid (HF0.out.chg Y2.out WHF0.out (by omega))
    obtain ⟨qC0, qC1⟩ := KC.out.c2
    have jC := KC.out.lt
    go_wp2_with fail
    refine name_calls ?_; intro v3 hv3
    have X3 : Hid (Chg (0) (0) w2 v3) := Lib.hid (by rw [hv3]; repeat' (first | with_reducible exact Chg.refl _ _ _ | with_reducible refine Chg.alloc ?_ _ | with_reducible refine Chg.drew ?_ | with_reducible refine Chg.set ?_ (by omega) _))
    have t3 : w2.heap.size ≤ v3.heap.size := X3.out.size
    have Ev3 : Hid (Ex w v3) := Lib.hid (Ew2.out.chg X3.out (by omega))
    clear qC0 qC1 jC
    replace KC : Hid (Blk v3 (w0.heap.size) 33 [.slice A0 t.lines.length c0, .int .i64 t.hand]) := Lib.hid (KC.out.chg X3.out (by omega))
    replace HF0 := Lib.hid (HF0.out.chg X3.out WHF0.out (by omega))
    clear hv3
    refine (C3.out A0 c0 _ HF0.out.rd hn HF0.out.le).mono ?_; rintro r w3 ⟨rfl, hb3⟩
    have Y3 : Hid (Chg 0 0 v3 w3) := Lib.hid (Chg.of_ex hb3)
    have s3 : v3.heap.size ≤ w3.heap.size := Y3.out.size
    have Ew3 : Hid (Ex w w3) := Lib.hid (Ev3.out.chg Y3.out (by omega))
    clear hb3
    replace KC : Hid (Blk w3 (w0.heap.size) 33 [.slice A0 t.lines.length c0, .int .i64 t.hand]) := Lib.hid (KC.out.chg Y3.out (by omega))
    replace HF0 := Lib.hid (HF0.out.chg Y3.out WHF0.out (by omega))
    obtain ⟨qC0, qC1⟩ := KC.out.c2
    have jC := KC.out.lt
    go_wp2
    go_ret
    exact ⟨rfl, Ew3.out⟩
  rw [hv] at C3
  have hcv := (cv_iff t).1 hv
  have h1 := hcv.n1
  obtain ⟨p, hfit, hend⟩ := find_count hcv tag page
  have HFIT := Lib.hid hfit
  have HEND := Lib.hid hend
  clear hfit hend hcv hv
  generalize findLine t tag page = q at C1 C2 HEND
  obtain ⟨at_, ok⟩ := q
  dsimp only at C1 C2 HEND
  have hva : (at_ != at_) = false := by simp
  have hvo : (ok != ok) = false := by simp
  obtain ⟨a1, o1, hA, -, -⟩ := HF0.out.rd (by omega)
  subst hA
  go_wp2_with fail
  refine name_calls ?_; intro v1 hv1
  have X1 : Hid (Chg (0) (0) w0 v1) := Lib.hid (by rw [hv1]; repeat' (first | with_reducible exact Chg.refl _ _ _ | with_reducible refine Chg.alloc ?_ _ | with_reducible refine Chg.drew ?_ | with_reducible refine Chg.set ?_ (by omega) _))
  have t1 : w0.heap.size ≤ v1.heap.size := X1.out.size
  have Ev1 : Hid (Ex w v1) := Lib.hid (Ew0.out.chg X1.out (by omega))
  replace HF0 := Lib.hid (HF0.out.chg X1.out WHF0.out (by omega))
  have KC : Hid (Blk v1 (w0.heap.size) 33 [.slice (some ⟨a1, o1, none⟩) t.lines.length c0, .int .i64 t.hand]) := Lib.hid (by rw [hv1]; repeat' (first | with_reducible exact Blk.new_at _ _ _ (by simp) | with_reducible refine Blk.alloc ?_ _ | with_reducible refine Blk.drew ?_ | with_reducible refine Blk.far ?_ (by simp; omega) _))
  have lC : w0.heap.size < v1.heap.size := KC.out.lt
  clear hv1
  refine (C1.out _ c0 _ HF0.out.rd hn HF0.out.le).mono ?_; rintro r w1 ⟨rfl, hb1⟩
  have Y1 : Hid (Chg 0 0 v1 w1) := Lib.hid (Chg.of_ex hb1)
  have s1 : v1.heap.size ≤ w1.heap.size := Y1.out.size
  have Ew1 : Hid (Ex w w1) := Lib.hid (Ev1.out.chg Y1.out (by omega))
  clear hb1
  replace KC : Hid (Blk w1 (w0.heap.size) 33 [.slice (some ⟨a1, o1, none⟩) t.lines.length c0, .int .i64 t.hand]) := Lib.hid (KC.out.chg Y1.out (by omega))
  replace HF0 := Lib.hid (HF0.out.chg Y1.out WHF0.out (by omega))
  obtain ⟨qC0, qC1⟩ := KC.out.c2
  have jC := KC.out.lt
  go_wp2_with fail
  refine name_calls ?_; intro v2 hv2
  have X2 : Hid (Chg (0) (0) w1 v2) := Lib.hid (by rw [hv2]; repeat' (first | with_reducible exact Chg.refl _ _ _ | with_reducible refine Chg.alloc ?_ _ | with_reducible refine Chg.drew ?_ | with_reducible refine Chg.set ?_ (by omega) _))
  have t2 : w1.heap.size ≤ v2.heap.size := X2.out.size
  have Ev2 : Hid (Ex w v2) := Lib.hid (Ew1.out.chg X2.out (by omega))
  clear qC0 qC1 jC
  replace KC : Hid (Blk v2 (w0.heap.size) 33 [.slice (some ⟨a1, o1, none⟩) t.lines.length c0, .int .i64 t.hand]) := Lib.hid (KC.out.chg X2.out (by omega))
  replace HF0 := Lib.hid (HF0.out.chg X2.out WHF0.out (by omega))
  clear hv2
  refine (C2.out _ c0 _ HF0.out.rd hn HF0.out.le).mono ?_; rintro r w2 ⟨rfl, hb2⟩
  have Y2 : Hid (Chg 0 0 v2 w2) := Lib.hid (Chg.of_ex hb2)
  have s2 : v2.heap.size ≤ w2.heap.size := Y2.out.size
  have Ew2 : Hid (Ex w w2) := Lib.hid (Ev2.out.chg Y2.out (by omega))
  clear hb2
  replace KC : Hid (Blk w2 (w0.heap.size) 33 [.slice (some ⟨a1, o1, none⟩) t.lines.length c0, .int .i64 t.hand]) := Lib.hid (KC.out.chg Y2.out (by omega))
  replace HF0 := Lib.hid (HF0.out.chg Y2.out WHF0.out (by omega))
  obtain ⟨qC0, qC1⟩ := KC.out.c2
  have jC := KC.out.lt
  go_wp2_with fail
  refine name_calls ?_; intro v3 hv3
  have X3 : Hid (Chg (0) (0) w2 v3) := Lib.hid (by rw [hv3]; repeat' (first | with_reducible exact Chg.refl _ _ _ | with_reducible refine Chg.alloc ?_ _ | with_reducible refine Chg.drew ?_ | with_reducible refine Chg.set ?_ (by omega) _))
  have t3 : w2.heap.size ≤ v3.heap.size := X3.out.size
  have Ev3 : Hid (Ex w v3) := Lib.hid (Ew2.out.chg X3.out (by omega))
  clear qC0 qC1 jC
  replace KC : Hid (Blk v3 (w0.heap.size) 33 [.slice (some ⟨a1, o1, none⟩) t.lines.length c0, .int .i64 t.hand]) := Lib.hid (KC.out.chg X3.out (by omega))
  replace HF0 := Lib.hid (HF0.out.chg X3.out WHF0.out (by omega))
  clear hv3
  refine (C3.out _ c0 _ HF0.out.rd hn HF0.out.le).mono ?_; rintro r w3 ⟨rfl, hb3⟩
  have Y3 : Hid (Chg 0 0 v3 w3) := Lib.hid (Chg.of_ex hb3)
  have s3 : v3.heap.size ≤ w3.heap.size := Y3.out.size
  have Ew3 : Hid (Ex w w3) := Lib.hid (Ev3.out.chg Y3.out (by omega))
  clear hb3
  replace KC : Hid (Blk w3 (w0.heap.size) 33 [.slice (some ⟨a1, o1, none⟩) t.lines.length c0, .int .i64 t.hand]) := Lib.hid (KC.out.chg Y3.out (by omega))
  replace HF0 := Lib.hid (HF0.out.chg Y3.out WHF0.out (by omega))
  obtain ⟨qC0, qC1⟩ := KC.out.c2
  have jC := KC.out.lt
  obtain ⟨gC, hgC⟩ : ∃ gC, gC = w0.heap.size := ⟨_, rfl⟩
  have HST : Hid (FLRound t gC a1 o1 c0 p w (.int .i64 0) (.int .i64 0) w3) := Lib.hid ⟨0, Nat.zero_le _, rfl, by rw [cntF_zero], Ew3.out, by rw [hgC]; exact KC.out, HF0.out.rd⟩
  rw [← hgC] at KC qC0 qC1 jC ⊢
  clear hgC
  go_wp2
  clear qC0 qC1 jC KC HF0 WHF0
  go_loopw [10, 11] (fun m i wr => FLRound t gC a1 o1 c0 p w m i wr) (fun _ i _ => t.lines.length - (intOf i).toNat)
  case atStart => exact HST.out
  case round =>
    clear HST
    obtain ⟨k, hk, rfl, rfl, hex, hkc, hr0⟩ := hrel
    have Ewr := Lib.hid hex
    have KC := Lib.hid hkc
    have HR0 := Lib.hid hr0
    clear hex hkc hr0
    obtain ⟨qC0, qC1⟩ := KC.out.c2
    have jC := KC.out.lt
    have hc0 := cntF_ge p k
    have hc1 := cntF_le p k
    by_cases hlt : k < t.lines.length
    · have hk0 : ¬ ((k : Int) < 0) := by omega
      have hk1 : (k : Int) < (t.lines.length : Int) := by omega
      obtain ⟨x, hb1, hx1, g0, g1, g2, g3, g4, g5⟩ := Rd.line_known HR0.out (k := k) hlt
      have HSTEP := Lib.hid (cntF_step (HFIT.out k x hx1))
      obtain ⟨nn, hnn⟩ : ∃ nn, nn = cntF p k := ⟨_, rfl⟩
      rw [← hnn] at hc0 hc1 HSTEP ⊢
      clear hx1 hnn
      rcases fits_split x tag page with ⟨h1, e⟩ | ⟨h1, h2, e⟩ | ⟨h1, h2, h3, e⟩ | ⟨h1, h2, h3, h4, e⟩ | ⟨h1, h2, h3, h4, e⟩
      all_goals
        rw [e] at HSTEP
        rw [h1] at g0
        clear e h1
        go_wp2
        go_roundw
        case rel => exact ⟨k + 1, by omega, by go_num, by rw [HSTEP.out]; first | rfl | go_num, (by repeat' (first | with_reducible exact Ewr.out | with_reducible refine Ex.alloc ?_ _ | with_reducible refine Ex.drew ?_ | with_reducible refine Ex.drewN ?_ _)), (by repeat' (first | with_reducible exact KC.out | with_reducible refine Blk.alloc ?_ _ | with_reducible refine Blk.drew ?_ | with_reducible refine Blk.drewN ?_ _)), (by repeat' (first | with_reducible exact HR0.out | with_reducible refine Rd.alloc ?_ _ | with_reducible refine Rd.drew ?_ | with_reducible refine Rd.drewN ?_ _))⟩
        case measure => simp [intOf]; omega
    · obtain rfl : k = t.lines.length := by omega
      obtain ⟨nn, hnn⟩ : ∃ nn, nn = cntF p t.lines.length := ⟨_, rfl⟩
      rw [← hnn] at hc0 hc1 HEND ⊢
      clear hnn
      rcases HEND.out with ⟨e1, e2⟩ | ⟨e1, e2⟩
      · subst e1 e2
        go_wp2
        go_ret
        exact ⟨rfl, Ewr.out⟩
      · subst e1
        cases ht : tagB tag
        · rw [ht] at e2
          subst e2
          by_cases h7 : tag < -1
          · go_wp2
            go_ret
            exact ⟨rfl, Ewr.out⟩
          · have h7' : -1 ≤ tag := by omega
            have h8 : ¬ tag < 8 := fun h => by rw [tagB_iff.2 ⟨h7', h⟩] at ht; cases ht
            go_wp2
            go_ret
            exact ⟨rfl, Ewr.out⟩
        · rw [ht] at e2
          subst e2
          obtain ⟨h7, h8⟩ := tagB_iff.1 ht
          go_wp2
          go_ret
          exact ⟨rfl, Ewr.out⟩
end Go.Proofs.Ytidnefcnojedoaa
