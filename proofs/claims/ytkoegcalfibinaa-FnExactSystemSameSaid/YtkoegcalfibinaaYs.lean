/- Contracts over processors: counting, copying, comparing. -/
import Derived.Test.YtkoegcalfibinaaYd
namespace Go.Proofs.Ytkoegcalfibinaa
open Go.ChangeShapes Go.WideShapes Go.ChangeAt Go.RowKit
open Rec (sz cs)
set_option linter.unusedVariables false
set_option maxRecDepth 100000

set_option maxHeartbeats 400000 in
theorem szCpu_c (x : CpuD) (A : Option Addr) (c : Nat) (B : Option Addr) (d : Nat) (l : Int) (w : World) (h0 : 0 ≤ l) (h1 : l ≤ 1048576) (hn : x.notes.length ≤ maxLen) (hm : x.waits.length ≤ maxLen) :
    Calls Try.prog 49 #[.agg #[.slice A x.notes.length c, .slice B x.waits.length d], .int .i64 l] w fun r w' => r = .returned (.int .i64 (szI l (sumCpu x))) ∧ Ex w w' := by
  unfold sumCpu
  generalize x.notes.length = n at *
  generalize x.waits.length = m at *
  by_cases h2 : l < n
  · have e1 := szI_neg h2
    have e2 : szI l (n + m) = -1 := szI_neg (by omega)
    rw [e2]
    have C1 := Lib.hid (fun w => szNoteS_c A n c l w h0 h1 hn)
    rw [e1] at C1
    clear e1 e2
    go_enter Try.func49, Try.ntmps49
    go_wp2_with fail
    refine (C1.out _).mono ?_; rintro r wq1 ⟨rfl, rfl⟩
    go_wp2
    go_ret
    exact ⟨rfl, (by repeat' (first | with_reducible exact Ex.refl _ | with_reducible refine Ex.alloc ?_ _ | with_reducible refine Ex.drew ?_ | with_reducible refine Ex.put ?_ (by omega) _))⟩
  have e1 := szI_pos h2
  have h3 : 0 ≤ l - n := by omega
  have h3' : ¬ l - n < 0 := by omega
  have C1 := Lib.hid (fun w => szNoteS_c A n c l w h0 h1 hn)
  rw [e1] at C1
  by_cases h4 : l - n < m
  · have e3 := szI_neg h4
    have e2 : szI l (n + m) = -1 := szI_neg (by omega)
    rw [e2]
    have C2 := Lib.hid (fun w => szNoteS_c B m d (l - n) w h3 (by omega) hm)
    rw [e3] at C2
    clear e1 e2 e3
    go_enter Try.func49, Try.ntmps49
    go_wp2_with fail
    refine (C1.out _).mono ?_; rintro r wq1 ⟨rfl, rfl⟩
    go_wp2_with fail
    refine (C2.out _).mono ?_; rintro r wq2 ⟨rfl, rfl⟩
    go_wp2
    go_ret
    exact ⟨rfl, (by repeat' (first | with_reducible exact Ex.refl _ | with_reducible refine Ex.alloc ?_ _ | with_reducible refine Ex.drew ?_ | with_reducible refine Ex.put ?_ (by omega) _))⟩
  have e3 := szI_pos h4
  have e2 : szI l (n + m) = l - n - m := by rw [szI_pos (by omega)]; omega
  rw [e2]
  have C2 := Lib.hid (fun w => szNoteS_c B m d (l - n) w h3 (by omega) hm)
  rw [e3] at C2
  have h5 : ¬ l - n - m < 0 := by omega
  clear e1 e2 e3
  go_enter Try.func49, Try.ntmps49
  go_wp2_with fail
  refine (C1.out _).mono ?_; rintro r wq1 ⟨rfl, rfl⟩
  go_wp2_with fail
  refine (C2.out _).mono ?_; rintro r wq2 ⟨rfl, rfl⟩
  go_wp2
  go_ret
  exact ⟨rfl, (by repeat' (first | with_reducible exact Ex.refl _ | with_reducible refine Ex.alloc ?_ _ | with_reducible refine Ex.drew ?_ | with_reducible refine Ex.put ?_ (by omega) _))⟩

set_option maxHeartbeats 1000000 in
theorem szCpuS_c (A : Option Addr) (c : Nat) (xs : List CpuD) (l : Int) (w : World) (hx : HasC w A xs) (h0 : 0 ≤ l) (h1 : l ≤ 1048576) (hl : LenC xs) :
    Calls Try.prog 22 #[.slice A xs.length c, .int .i64 l] w fun r w' => r = .returned (.int .i64 (szI l (sumC xs))) ∧ Ex w w' := by
  have hn := hl.n
  have HL := Lib.hid hl.e
  have HX := Lib.hid hx
  have HB : Hid (∀ j, j ≤ xs.length → sumUp xs j ≤ sumUp xs xs.length) := Lib.hid (fun j hj => sumUp_le xs _ _ hj)
  have HS : Hid (∀ k x, xs[k]? = some x → sumUp xs (k + 1) = sumUp xs k + sumCpu x) := Lib.hid (fun k x h => sumUp_succ h)
  unfold sumC
  unfold maxLen at hn
  obtain ⟨n, hn1⟩ : ∃ n, n = xs.length := ⟨_, rfl⟩
  rw [← hn1] at hn HB ⊢
  have HN := Lib.hid hn1
  clear hl hx hn1
  by_cases h2 : l < n
  · have HF : Hid (szI l (n + sumUp xs n) = -1) := Lib.hid (szI_neg (by omega))
    have hd : l - n < 0 := by omega
    go_enter Try.func22, Try.ntmps22
    go_wp2
    go_ret
    exact ⟨ret_int HF.out.symm, Ex.refl _⟩
  have hd : ¬ l - n < 0 := by omega
  have HV : Hid (∀ j : Nat, j ≤ n → l - n < sumUp xs j → szI l (n + sumUp xs n : Nat) = -1) := Lib.hid (fun j hj h4 => szI_neg (by have := HB.out j hj; omega))
  have HP : Hid (¬ l - n < sumUp xs n → szI l (n + sumUp xs n : Nat) = l - n - sumUp xs n) := Lib.hid (fun h3 => by rw [szI_pos (by omega)]; omega)
  generalize szI l (n + sumUp xs n : Nat) = res at HV HP ⊢
  go_enter Try.func22, Try.ntmps22
  go_wp2
  go_loopw [1, 5] (fun q i wr => ∃ (k : Nat) (v : Int), k ≤ n ∧ i = .int .i64 k ∧ q = .int .i64 v ∧ 0 ≤ v ∧ v ≤ 1048576 ∧ v = l - n - sumUp xs k ∧ Ex w wr) (fun _ i _ => n - (intOf i).toNat)
  case atStart => exact ⟨0, l - n, Nat.zero_le _, rfl, rfl, by omega, by omega, by rw [sumUp_zero]; simp, Ex.refl _⟩
  case round =>
    obtain ⟨k, v, hk, rfl, rfl, hv0, hv1, hv, hbel⟩ := hrel
    have HQ := Lib.hid hv
    have HB2 := Lib.hid hbel
    clear hv hbel
    by_cases hlt : k < n
    · obtain ⟨b1, o1, x, nA, nc, wA, wc, rfl, hb1, hxk, g0, g1, hr1, hr2⟩ := (HX.out.ex HB2.out).at_ (k := k) (by have := HN.out; omega)
      have HXK := Lib.hid hxk
      have HLX := Lib.hid (HL.out k x hxk)
      have HS1 := Lib.hid (HS.out k x hxk)
      clear hxk hr1 hr2
      have C1 := Lib.hid (fun w => szCpu_c x nA nc wA wc v w hv0 hv1 HLX.out.1 HLX.out.2)
      by_cases h3 : v < (sumCpu x : Nat)
      · rw [szI_neg h3] at C1
        obtain rfl : res = -1 := HV.out (k + 1) (by omega) (by have := HS1.out; have := HQ.out; omega)
        go_wp2_with (go_at_call 49; go_must (refine (C1.out _).mono ?_); rintro r w2 ⟨rfl, hb⟩)
        go_ret
        exact ⟨rfl, HB2.out.trans (by repeat' (first | with_reducible exact hb | with_reducible refine Ex.trans (Ex.refl _).drew hb))⟩
      · rw [szI_pos h3] at C1
        obtain ⟨v2, hv2⟩ : ∃ v2 : Int, v2 = v - (sumCpu x : Nat) := ⟨_, rfl⟩
        rw [← hv2] at C1
        have HV2 := Lib.hid hv2
        have h4 : ¬ v2 < 0 := by omega
        clear hv2 h3
        go_wp2_with (go_at_call 49; go_must (refine (C1.out _).mono ?_); rintro r w2 ⟨rfl, hb⟩)
        go_roundw
        case rel => exact ⟨k + 1, v2, by omega, by go_num, rfl, by omega, by have := HV2.out; omega, by have := HV2.out; have := HS1.out; have := HQ.out; omega, HB2.out.trans (by repeat' (first | with_reducible exact hb | with_reducible refine Ex.trans (Ex.refl _).drew hb))⟩
        case measure => simp [intOf]; omega
    · obtain rfl : k = n := by omega
      obtain rfl : res = v := by rw [HP.out (by have := HQ.out; omega)]; exact HQ.out.symm
      go_wp2
      go_ret
      exact ⟨rfl, HB2.out⟩

set_option maxHeartbeats 400000 in
theorem toCpu_c (x : CpuD) (A : Option Addr) (c : Nat) (B : Option Addr) (d : Nat) (w : World) (hx : Rd w A x.notes) (hy : Rd w B x.waits) (hn : x.notes.length ≤ 1048576) (hm : x.waits.length ≤ 1048576) :
    Calls Try.prog 52 #[.agg #[.slice A x.notes.length c, .slice B x.waits.length d]] w
    fun r w' => ∃ A' c' B' d', r = .returned (.agg #[.slice A' x.notes.length c', .slice B' x.waits.length d']) ∧ Fr 81 w' w.heap.size A' c' x.notes ∧ Fr 81 w' w.heap.size B' d' x.waits ∧ Ex w w' := by
  have HX := Lib.hid hx
  have HY := Lib.hid hy
  clear hx hy
  go_enter Try.func52, Try.ntmps52
  go_wp2_with fail
  refine name_calls ?_; intro v1 hv1
  have X1 : Hid (Chg (0) (0) w v1) := Lib.hid (by rw [hv1]; repeat' (first | with_reducible exact Chg.refl _ _ _ | with_reducible refine Chg.alloc ?_ _ | with_reducible refine Chg.drew ?_ | with_reducible refine Chg.set ?_ (by omega) _))
  have t1 : w.heap.size ≤ v1.heap.size := X1.out.size
  have Ev1 : Hid (Ex w v1) := Lib.hid ((Ex.refl w).chg X1.out (by omega))
  have KX : Hid (Blk v1 (w.heap.size) 98 [.slice A x.notes.length c, .slice B x.waits.length d]) := Lib.hid (by rw [hv1]; repeat' (first | with_reducible exact Blk.new_at _ _ _ (by simp) | with_reducible refine Blk.alloc ?_ _ | with_reducible refine Blk.drew ?_ | with_reducible refine Blk.far ?_ (by simp; omega) _))
  have lX : w.heap.size < v1.heap.size := KX.out.lt
  have KR : Hid (Blk v1 (w.heap.size + 1) 74 [.slice none 0 0, .slice none 0 0]) := Lib.hid (by rw [hv1]; exact (Blk.new_at _ _ _ (by simp)).alloc _)
  have lR : w.heap.size + 1 < v1.heap.size := KR.out.lt
  have KO : Hid (Blk v1 (w.heap.size + 1 + 1) 74 [.slice none 0 0, .slice none 0 0]) := Lib.hid (by rw [hv1]; exact Blk.new_at _ _ _ (by simp))
  have lO : w.heap.size + 1 + 1 < v1.heap.size := KO.out.lt
  have DX := Lib.hid (HX.out.ex Ev1.out)
  have DY := Lib.hid (HY.out.ex Ev1.out)
  clear hv1
  refine (toNoteS_c A c x.notes _ DX.out hn).mono ?_; rintro r w1 ⟨A1, c1, rfl, hf1, hb1⟩
  have Y1 : Hid (Chg 0 0 v1 w1) := Lib.hid (Chg.of_ex hb1)
  have s1 : v1.heap.size ≤ w1.heap.size := Y1.out.size
  have Ew1 : Hid (Ex w w1) := Lib.hid (Ev1.out.chg Y1.out (by omega))
  clear hb1
  replace KX : Hid (Blk w1 (w.heap.size) 98 [.slice A x.notes.length c, .slice B x.waits.length d]) := Lib.hid (KX.out.chg Y1.out (by omega))
  replace KR : Hid (Blk w1 (w.heap.size + 1) 74 [.slice none 0 0, .slice none 0 0]) := Lib.hid (KR.out.chg Y1.out (by omega))
  replace KO : Hid (Blk w1 (w.heap.size + 1 + 1) 74 [.slice none 0 0, .slice none 0 0]) := Lib.hid (KO.out.chg Y1.out (by omega))
  replace DX := Lib.hid (HX.out.ex Ew1.out)
  replace DY := Lib.hid (HY.out.ex Ew1.out)
  have HF1 := Lib.hid hf1; clear hf1
  have WHF1 := Lib.hid HF1.out.row
  obtain ⟨qX0, qX1⟩ := KX.out.c2
  have jX := KX.out.lt
  obtain ⟨qR0, qR1⟩ := KR.out.c2
  have jR := KR.out.lt
  have zR := KR.out.frozen
  obtain ⟨qO0, qO1⟩ := KO.out.c2
  have jO := KO.out.lt
  have zO := KO.out.frozen
  go_wp2_with fail
  refine name_calls ?_; intro v2 hv2
  have X2 : Hid (Chg (w.heap.size + 1 + 1) (w.heap.size + 1 + 1 + 1) w1 v2) := Lib.hid (by rw [hv2]; repeat' (first | with_reducible exact Chg.refl _ _ _ | with_reducible refine Chg.alloc ?_ _ | with_reducible refine Chg.drew ?_ | with_reducible refine Chg.set ?_ (by omega) _))
  have t2 : w1.heap.size ≤ v2.heap.size := X2.out.size
  have Ev2 : Hid (Ex w v2) := Lib.hid (Ew1.out.chg X2.out (by omega))
  clear qX0 qX1 jX
  clear qR0 qR1 jR zR
  clear qO0 qO1 jO zO
  replace KO : Hid (Blk v2 (w.heap.size + 1 + 1) 74 [.slice A1 x.notes.length c1, .slice none 0 0]) := Lib.hid (by rw [hv2]; exact KO.out.set 0 _)
  replace KX : Hid (Blk v2 (w.heap.size) 98 [.slice A x.notes.length c, .slice B x.waits.length d]) := Lib.hid (KX.out.chg X2.out (by omega))
  replace KR : Hid (Blk v2 (w.heap.size + 1) 74 [.slice none 0 0, .slice none 0 0]) := Lib.hid (KR.out.chg X2.out (by omega))
  replace HF1 := Lib.hid (HF1.out.chg X2.out WHF1.out (by omega))
  replace DX := Lib.hid (HX.out.ex Ev2.out)
  replace DY := Lib.hid (HY.out.ex Ev2.out)
  clear hv2
  refine (toNoteS_c B d x.waits _ DY.out hm).mono ?_; rintro r w2 ⟨B2, d2, rfl, hf2, hb2⟩
  have Y2 : Hid (Chg 0 0 v2 w2) := Lib.hid (Chg.of_ex hb2)
  have s2 : v2.heap.size ≤ w2.heap.size := Y2.out.size
  have Ew2 : Hid (Ex w w2) := Lib.hid (Ev2.out.chg Y2.out (by omega))
  clear hb2
  replace KX : Hid (Blk w2 (w.heap.size) 98 [.slice A x.notes.length c, .slice B x.waits.length d]) := Lib.hid (KX.out.chg Y2.out (by omega))
  replace KR : Hid (Blk w2 (w.heap.size + 1) 74 [.slice none 0 0, .slice none 0 0]) := Lib.hid (KR.out.chg Y2.out (by omega))
  replace KO : Hid (Blk w2 (w.heap.size + 1 + 1) 74 [.slice A1 x.notes.length c1, .slice none 0 0]) := Lib.hid (KO.out.chg Y2.out (by omega))
  replace HF1 := Lib.hid (HF1.out.chg Y2.out WHF1.out (by omega))
  replace DX := Lib.hid (HX.out.ex Ew2.out)
  replace DY := Lib.hid (HY.out.ex Ew2.out)
  have HF2 := Lib.hid hf2; clear hf2
  have WHF2 := Lib.hid HF2.out.row
  obtain ⟨qX0, qX1⟩ := KX.out.c2
  have jX := KX.out.lt
  obtain ⟨qR0, qR1⟩ := KR.out.c2
  have jR := KR.out.lt
  have zR := KR.out.frozen
  obtain ⟨qO0, qO1⟩ := KO.out.c2
  have jO := KO.out.lt
  have zO := KO.out.frozen
  go_wp2
  exact bodyPost_ret (v := .agg #[.slice A1 x.notes.length c1, .slice B2 x.waits.length d2]) (by first | (simp [results, Try.results52, go_sem, qR0, qR1]; done)) rfl
    ⟨A1, c1, B2, d2, rfl, Fr.mono (B := v1.heap.size) (by repeat' (first | with_reducible exact HF1.out | with_reducible refine Fr.alloc ?_ _ | with_reducible refine Fr.put ?_ (fun b hb => by have := WHF1.out b hb; omega) _)) (by omega), Fr.mono (B := v2.heap.size) (by repeat' (first | with_reducible exact HF2.out | with_reducible refine Fr.alloc ?_ _ | with_reducible refine Fr.put ?_ (fun b hb => by have := WHF2.out b hb; omega) _)) (by omega), (by repeat' (first | with_reducible exact Ew2.out | with_reducible refine Ex.alloc ?_ _ | with_reducible refine Ex.drew ?_ | with_reducible refine Ex.put ?_ (by omega) _))⟩

theorem infoMCpu : (Try.prog.info? 74).map (fun i => (i.zero, i.size, i.bytes)) = some (some (.agg #[.slice none 0 0, .slice none 0 0]), 2, 48) := by kernel_rfl

set_option maxHeartbeats 2000000 in
theorem toCpuS_c (A : Option Addr) (c : Nat) (xs : List CpuD) (w : World) (hx : HasC w A xs) (hl : FewC xs) :
    Calls Try.prog 26 #[.slice A xs.length c] w
    fun r w' => ∃ A' c', r = .returned (.slice A' xs.length c') ∧ FrC w' w.heap.size A' c' xs ∧ Ex w w' := by
  have hn := hl.n
  have HL := Lib.hid hl.e
  have HX := Lib.hid hx
  obtain ⟨n, hn1⟩ : ∃ n, n = xs.length := ⟨_, rfl⟩
  rw [← hn1] at hn ⊢
  have hmk := make_rec (P := Try.prog) (α := CpuR) 34 74 48 ⟨none, 0, 0, none, 0, 0⟩ _ Try.underlying34 infoMCpu rfl n (by omega) (by omega)
  have HN := Lib.hid hn1
  clear hl hx hn1
  go_enter Try.func26, Try.ntmps26
  go_wp2
  clear hmk
  go_loopw [4] (fun i wr => ∃ (k : Nat) (zs : List CpuR), k ≤ n ∧ i = .int .i64 k ∧ Ex w wr ∧ zs.length = n ∧ (∀ (j : Nat) (x : CpuD) (r : CpuR), j < k → xs[j]? = some x → zs[j]? = some r → r.nn = x.notes.length ∧ r.wn = x.waits.length ∧ Fr 81 wr (w.heap.size + 1) r.nA r.nc x.notes ∧ Fr 81 wr (w.heap.size + 1) r.wA r.wc x.waits) ∧ Bk 74 wr w.heap.size zs []) (fun i _ => n - (intOf i).toNat)
  case atStart => exact ⟨0, List.replicate n ⟨none, 0, 0, none, 0, 0⟩, Nat.zero_le _, rfl, (Ex.refl _).alloc _, List.length_replicate, fun j x r h => by omega, Bk.new _ _ _⟩
  case round =>
    obtain ⟨k, zs, hk, rfl, hbel, hzs, hin, hB⟩ := hrel
    have HI := Lib.hid hin
    have HZ := Lib.hid hzs
    have HB := Lib.hid hB
    have HB2 := Lib.hid hbel
    clear hin hzs hB hbel
    by_cases hlt : k < n
    · obtain ⟨b1, o1, x, nA, nc, wA, wc, rfl, hb1, hxk, g0, g1, hr1, hr2⟩ := (HX.out.ex HB2.out).at_ (k := k) (by have := HN.out; omega)
      obtain ⟨z, hzk⟩ : ∃ z, zs[k]? = some z := ⟨_, List.getElem?_eq_getElem (by have := HZ.out; omega)⟩
      have HXK := Lib.hid hxk
      have HZK := Lib.hid hzk
      have HR1 := Lib.hid hr1
      have HR2 := Lib.hid hr2
      have HLX := Lib.hid (HL.out k x hxk)
      have hgw : w.heap.size < wr.heap.size := Blk.lt HB.out
      clear hxk hzk hr1 hr2
      go_wp2_with (go_at_call 52; go_must (refine (toCpu_c x nA nc wA wc _ (by first | exact HR1.out | exact HR1.out.drew) (by first | exact HR2.out | exact HR2.out.drew) HLX.out.1 HLX.out.2).mono ?_); rintro r w2 ⟨A2, c2, B2, d2, rfl, hf1, hf2, hb⟩; have hB2 := Lib.hid (HB.out.ex hb); obtain ⟨hc0, hc1⟩ := (HB.out.ex hb).cpu HZK.out; have hfz := Bk.frozen (HB.out.ex hb))
      go_roundw
      case rel =>
        refine ⟨k + 1, zs.set k ⟨A2, x.notes.length, c2, B2, x.waits.length, d2⟩, by omega, by go_num, ((HB2.out.trans hb).set (Nat.le_refl _) _).set (Nat.le_refl _) _, by rw [List.length_set]; exact HZ.out, fun j y r hj hy hr => ?_, hB2.out.set_cpu ⟨A2, x.notes.length, c2, B2, x.waits.length, d2⟩ (by have := HZ.out; omega)⟩
        by_cases e : j = k
        · subst e
          rw [HXK.out] at hy
          injection hy with hy
          subst hy
          rw [List.getElem?_set_self (by have := HZ.out; omega)] at hr
          injection hr with hr
          subst hr
          exact ⟨rfl, rfl, (((Fr.mono (B' := w.heap.size + 1) hf1 (by first | exact hgw | (simp; omega))).set_below (Nat.lt_succ_self _) _).set_below (Nat.lt_succ_self _) _), (((Fr.mono (B' := w.heap.size + 1) hf2 (by first | exact hgw | (simp; omega))).set_below (Nat.lt_succ_self _) _).set_below (Nat.lt_succ_self _) _)⟩
        · rw [List.getElem?_set_ne (fun q => e q.symm)] at hr
          obtain ⟨e1, e2, f1, f2⟩ := HI.out j y r (by omega) hy hr
          exact ⟨e1, e2, ((f1.ex hb).set_below (Nat.lt_succ_self _) _).set_below (Nat.lt_succ_self _) _, ((f2.ex hb).set_below (Nat.lt_succ_self _) _).set_below (Nat.lt_succ_self _) _⟩
      case measure => simp [intOf]; omega
    · obtain rfl : k = n := by omega
      go_wp2
      go_ret
      refine ⟨_, _, rfl, ⟨zs, by rw [HZ.out]; exact HN.out, ⟨by rw [HZ.out]; exact Nat.le_refl _, by simp only [maxLen]; omega, .inr ⟨_, [], rfl, Nat.le_refl _, HB.out, by rw [HZ.out, Nat.sub_self, Nat.zero_mul]; exact Nat.zero_le _⟩⟩, fun i x r h1 h2 => ?_⟩, HB2.out⟩
      obtain ⟨e1, e2, f1, f2⟩ := HI.out i x r (by have := getElem?_lt h1; have := HN.out; omega) h1 h2
      exact ⟨e1, e2, f1.mono (Nat.le_succ _), f2.mono (Nat.le_succ _)⟩

set_option maxHeartbeats 400000 in
theorem eqCpu_self_c (x : CpuD) (A : Option Addr) (c : Nat) (B : Option Addr) (d : Nat) (A' : Option Addr) (c' : Nat) (B' : Option Addr) (d' : Nat) (w : World) (hx : Rd w A x.notes) (hy : Rd w B x.waits) (hx' : Rd w A' x.notes) (hy' : Rd w B' x.waits) (hn : x.notes.length ≤ 1048576) (hm : x.waits.length ≤ 1048576) :
    Calls Try.prog 57 #[.agg #[.slice A x.notes.length c, .slice B x.waits.length d], .agg #[.slice A' x.notes.length c', .slice B' x.waits.length d']] w fun r w' => r = .returned (.bool true) ∧ Ex w w' := by
  have HX := Lib.hid hx
  have HY := Lib.hid hy
  have HX2 := Lib.hid hx'
  have HY2 := Lib.hid hy'
  clear hx hy hx' hy'
  go_enter Try.func57, Try.ntmps57
  go_wp2_with fail
  refine name_calls ?_; intro v1 hv1
  have X1 : Hid (Chg (0) (0) w v1) := Lib.hid (by rw [hv1]; repeat' (first | with_reducible exact Chg.refl _ _ _ | with_reducible refine Chg.alloc ?_ _ | with_reducible refine Chg.drew ?_ | with_reducible refine Chg.set ?_ (by omega) _))
  have t1 : w.heap.size ≤ v1.heap.size := X1.out.size
  have Ev1 : Hid (Ex w v1) := Lib.hid ((Ex.refl w).chg X1.out (by omega))
  have KX : Hid (Blk v1 (w.heap.size) 74 [.slice A x.notes.length c, .slice B x.waits.length d]) := Lib.hid (by rw [hv1]; repeat' (first | with_reducible exact Blk.new_at _ _ _ (by simp) | with_reducible refine Blk.alloc ?_ _ | with_reducible refine Blk.drew ?_ | with_reducible refine Blk.far ?_ (by simp; omega) _))
  have lX : w.heap.size < v1.heap.size := KX.out.lt
  have KY : Hid (Blk v1 (w.heap.size + 1) 74 [.slice A' x.notes.length c', .slice B' x.waits.length d']) := Lib.hid (by rw [hv1]; repeat' (first | with_reducible exact Blk.new_at _ _ _ (by simp) | with_reducible refine Blk.alloc ?_ _ | with_reducible refine Blk.drew ?_ | with_reducible refine Blk.far ?_ (by simp; omega) _))
  have lY : w.heap.size + 1 < v1.heap.size := KY.out.lt
  have DX := Lib.hid (HX.out.ex Ev1.out)
  have DY := Lib.hid (HY.out.ex Ev1.out)
  have DXX := Lib.hid (HX2.out.ex Ev1.out)
  have DYY := Lib.hid (HY2.out.ex Ev1.out)
  clear hv1
  refine (eqNoteS_self_c A A' c c' x.notes _ DX.out DXX.out hn).mono ?_; rintro r w1 ⟨rfl, hb1⟩
  have Y1 : Hid (Chg 0 0 v1 w1) := Lib.hid (Chg.of_ex hb1)
  have s1 : v1.heap.size ≤ w1.heap.size := Y1.out.size
  have Ew1 : Hid (Ex w w1) := Lib.hid (Ev1.out.chg Y1.out (by omega))
  clear hb1
  replace KX : Hid (Blk w1 (w.heap.size) 74 [.slice A x.notes.length c, .slice B x.waits.length d]) := Lib.hid (KX.out.chg Y1.out (by omega))
  replace KY : Hid (Blk w1 (w.heap.size + 1) 74 [.slice A' x.notes.length c', .slice B' x.waits.length d']) := Lib.hid (KY.out.chg Y1.out (by omega))
  replace DX := Lib.hid (HX.out.ex Ew1.out)
  replace DY := Lib.hid (HY.out.ex Ew1.out)
  replace DXX := Lib.hid (HX2.out.ex Ew1.out)
  replace DYY := Lib.hid (HY2.out.ex Ew1.out)
  obtain ⟨qX0, qX1⟩ := KX.out.c2
  have jX := KX.out.lt
  obtain ⟨qY0, qY1⟩ := KY.out.c2
  have jY := KY.out.lt
  go_wp2_with fail
  refine name_calls ?_; intro v2 hv2
  have X2 : Hid (Chg (0) (0) w1 v2) := Lib.hid (by rw [hv2]; repeat' (first | with_reducible exact Chg.refl _ _ _ | with_reducible refine Chg.alloc ?_ _ | with_reducible refine Chg.drew ?_ | with_reducible refine Chg.set ?_ (by omega) _))
  have t2 : w1.heap.size ≤ v2.heap.size := X2.out.size
  have Ev2 : Hid (Ex w v2) := Lib.hid (Ew1.out.chg X2.out (by omega))
  clear qX0 qX1 jX
  clear qY0 qY1 jY
  replace KX : Hid (Blk v2 (w.heap.size) 74 [.slice A x.notes.length c, .slice B x.waits.length d]) := Lib.hid (KX.out.chg X2.out (by omega))
  replace KY : Hid (Blk v2 (w.heap.size + 1) 74 [.slice A' x.notes.length c', .slice B' x.waits.length d']) := Lib.hid (KY.out.chg X2.out (by omega))
  replace DX := Lib.hid (HX.out.ex Ev2.out)
  replace DY := Lib.hid (HY.out.ex Ev2.out)
  replace DXX := Lib.hid (HX2.out.ex Ev2.out)
  replace DYY := Lib.hid (HY2.out.ex Ev2.out)
  clear hv2
  refine (eqNoteS_self_c B B' d d' x.waits _ DY.out DYY.out hm).mono ?_; rintro r w2 ⟨rfl, hb2⟩
  have Y2 : Hid (Chg 0 0 v2 w2) := Lib.hid (Chg.of_ex hb2)
  have s2 : v2.heap.size ≤ w2.heap.size := Y2.out.size
  have Ew2 : Hid (Ex w w2) := Lib.hid (Ev2.out.chg Y2.out (by omega))
  clear hb2
  replace KX : Hid (Blk w2 (w.heap.size) 74 [.slice A x.notes.length c, .slice B x.waits.length d]) := Lib.hid (KX.out.chg Y2.out (by omega))
  replace KY : Hid (Blk w2 (w.heap.size + 1) 74 [.slice A' x.notes.length c', .slice B' x.waits.length d']) := Lib.hid (KY.out.chg Y2.out (by omega))
  replace DX := Lib.hid (HX.out.ex Ew2.out)
  replace DY := Lib.hid (HY.out.ex Ew2.out)
  replace DXX := Lib.hid (HX2.out.ex Ew2.out)
  replace DYY := Lib.hid (HY2.out.ex Ew2.out)
  obtain ⟨qX0, qX1⟩ := KX.out.c2
  have jX := KX.out.lt
  obtain ⟨qY0, qY1⟩ := KY.out.c2
  have jY := KY.out.lt
  go_wp2
  go_ret
  exact ⟨rfl, Ew2.out⟩

set_option maxHeartbeats 1000000 in
theorem eqCpuS_self_c (A B : Option Addr) (c d : Nat) (xs : List CpuD) (w : World) (hx : HasC w A xs) (hy : HasC w B xs) (hl : FewC xs) :
   Calls Try.prog 32 #[.slice A xs.length c, .slice B xs.length d] w
   fun r w' => r = .returned (.bool true) ∧ Ex w w' := by
  have hn := hl.n
  have HL := Lib.hid hl.e
  obtain ⟨n, hn1⟩ : ∃ n, n = xs.length := ⟨_, rfl⟩
  rw [← hn1] at hn ⊢
  have HN := Lib.hid hn1
  have H1 := Lib.hid hx
  have H2 := Lib.hid hy
  clear hl hn1 hx hy
  go_enter Try.func32, Try.ntmps32
  go_wp2
  go_loopw [5] (fun i wr => ∃ k : Nat, k ≤ n ∧ i = .int .i64 k ∧ Ex w wr) (fun i _ => n - (intOf i).toNat)
  case atStart => exact ⟨0, Nat.zero_le _, rfl, Ex.refl _⟩
  case round =>
    obtain ⟨k, hk, rfl, hbel⟩ := hrel
    have HB := Lib.hid hbel
    clear hbel
    by_cases hlt : k < n
    · obtain ⟨b1, o1, x, nA, nc, wA, wc, rfl, hb1, hxk, g0, g1, hr1, hr2⟩ := (H1.out.ex HB.out).at_ (k := k) (by have := HN.out; omega)
      obtain ⟨b2, o2, y, nA', nc', wA', wc', rfl, hb2, hyk, g2, g3, hr3, hr4⟩ := (H2.out.ex HB.out).at_ (k := k) (by have := HN.out; omega)
      have e : y = x := by rw [hxk] at hyk; injection hyk with e; exact e.symm
      subst e
      have HR1 := Lib.hid hr1
      have HR2 := Lib.hid hr2
      have HR3 := Lib.hid hr3
      have HR4 := Lib.hid hr4
      have HLX := Lib.hid (HL.out k y hxk)
      clear hxk hyk hr1 hr2 hr3 hr4
      go_wp2_with fail
      go_still_tail 8, (by kernel_rfl)
      change wpList _ _ _ _ _ wr.drew
      go_wp2_with (go_at_call 57; go_must (refine (eqCpu_self_c y nA nc wA wc nA' nc' wA' wc' _ HR1.out.drew HR2.out.drew HR3.out.drew HR4.out.drew HLX.out.1 HLX.out.2).mono ?_); rintro r w' ⟨rfl, hb⟩)
      go_roundw
      case rel => exact ⟨k + 1, by omega, by go_num, (HB.out.drew).trans hb⟩
      case measure => simp [intOf]; omega
    · go_wp2
      go_ret
      exact ⟨rfl, HB.out⟩

set_option maxHeartbeats 1000000 in
theorem l8Notes_c (A B : Option Addr) (c d : Nat) (xs ys : List NoteD) (w : World) (hx : Rd w A xs) (hy : Rd w B ys) (hn : xs.length ≤ 1048576) (hm : ys.length ≤ 1048576) :
   Calls Try.prog 24 #[.slice A xs.length c, .slice B ys.length d] w
   fun r w' => r = .returned (.bool (eqB xs ys)) ∧ Ex w w' := by
  by_cases hl : xs.length = ys.length
  · obtain ⟨n, hn1⟩ : ∃ n, n = xs.length := ⟨_, rfl⟩
    obtain ⟨m, hm1⟩ : ∃ m, m = ys.length := ⟨_, rfl⟩
    rw [← hn1, ← hm1]
    obtain rfl : n = m := by omega
    have hn' : n ≤ 1048576 := by omega
    have HX := Lib.hid hn1
    have HY := Lib.hid hm1
    have H1 := Lib.hid hx
    have H2 := Lib.hid hy
    clear hn hm hn1 hm1 hx hy hl
    go_enter Try.func24, Try.ntmps24
    go_wp2
    go_loopw [5] (fun i wr => ∃ k : Nat, k ≤ n ∧ i = .int .i64 k ∧ Ex w wr ∧ xs.take k = ys.take k) (fun i _ => n - (intOf i).toNat)
    case atStart => exact ⟨0, Nat.zero_le _, rfl, Ex.refl _, rfl⟩
    case round =>
      obtain ⟨k, hk, rfl, hbel, htk⟩ := hrel
      have HT := Lib.hid htk
      clear htk
      by_cases hlt : k < n
      · obtain ⟨b1, o1, x, rfl, hb1, hxk, h0, h1, h2⟩ := Rd.note (H1.out.ex hbel) (k := k) (by have := HX.out; omega)
        obtain ⟨b2, o2, y, rfl, hb2, hyk, g0, g1, g2⟩ := Rd.note (H2.out.ex hbel) (k := k) (by have := HY.out; omega)
        have HXK := Lib.hid hxk
        have HYK := Lib.hid hyk
        clear hxk hyk
        have hneq := neq_note x y
        have hgd := guardNote
        cases hxy : eqB x y
        · have hne : x ≠ y := eqB_false.1 hxy
          go_wp2_with fail
          go_quiet (fail)
          clear hneq hgd
          go_wp2
          go_ret
          exact ⟨ret_bool (by rw [eq_comm, eqB_false]; exact ne_of_elem HXK.out HYK.out hne), hbel.drewN _⟩
        · have HE := Lib.hid (eqB_true.1 hxy)
          go_wp2_with fail
          go_quiet (fail)
          clear hneq hgd
          go_wp2
          go_roundw
          case rel => exact ⟨k + 1, by omega, by go_num, hbel.drewN _, (take_eq_step HXK.out HYK.out).2 ⟨HT.out, HE.out⟩⟩
          case measure => simp [intOf]; omega
      · go_wp2
        go_ret
        exact ⟨ret_bool (by rw [eq_comm, eqB_true]; exact eq_of_take HX.out.symm HY.out.symm (by rw [show n = k from by omega]; exact HT.out)), hbel⟩
  · have hne : ((xs.length : Int) != (ys.length : Int)) = true := by simp; omega
    go_enter Try.func24, Try.ntmps24
    go_wp2
    go_ret
    exact ⟨ret_bool (by rw [eq_comm, eqB_false]; intro h; exact hl (by rw [h])), Ex.refl _⟩
end Go.Proofs.Ytkoegcalfibinaa
