/- TakeTags of the reference: the walk. -/
import Derived.Test.YtidnefcnojedoaaTn
import Derived.Test.YtidnefcnojedoaaTu
import Derived.Deep.RegionHeld3
namespace Go.Proofs.Ytidnefcnojedoaa
open Go.ChangeShapes Go.WideShapes Go.ChangeAt Go.RowKit
open Rec (sz cs)
set_option linter.unusedVariables false
set_option maxRecDepth 100000

set_option maxHeartbeats 4000000 in
theorem takeTagsS_c (t : TagsD) (zs : List Int) (A Z : Option Addr) (c d : Nat) (w : World) (hx : Rd w A t.owns) (hz : Rd w Z zs) (hn : t.owns.length ≤ 1048576) (hc : t.owns.length ≤ c) (hc2 : c ≤ maxLen) (hzn : zs.length ≤ 1048576) :
    Calls Try.prog 38 #[.agg #[.int .i64 t.count, .int .i64 t.next, .int .i64 t.round, .slice A t.owns.length c], .slice Z zs.length d] w
    fun r w' => ∃ A' c', r = .returned (.tuple #[.agg #[.int .i64 (takeTags t zs).1.count, .int .i64 (takeTags t zs).1.next, .int .i64 (takeTags t zs).1.round, .slice A' (takeTags t zs).1.owns.length c'], .int .i64 (takeTags t zs).2.1, .bool (takeTags t zs).2.2]) ∧ Fr 50 w' w.heap.size A' c' (takeTags t zs).1.owns ∧ Ex w w' := by
  have HX := Lib.hid hx
  have HZ := Lib.hid hz
  clear hx hz
  obtain ⟨n, hn1⟩ : ∃ n, n = zs.length := ⟨_, rfl⟩
  have HN := Lib.hid hn1
  cases hv : tagsV t
  · have e : takeTags t zs = (noTags, 0, false) := if_neg (fun h => by rw [hv] at h; cases h.1)
    rw [e, ← hn1]
    clear e hn1
    go_enter Try.func38, Try.ntmps38
    go_wp2_with fail
    refine name_calls ?_; intro v1 hv1
    have X1 : Hid (Chg (0) (0) w v1) := Lib.hid (by rw [hv1]; repeat' (first | with_reducible exact Chg.refl _ _ _ | with_reducible refine Chg.alloc ?_ _ | with_reducible refine Chg.drew ?_ | with_reducible refine Chg.set ?_ (by omega) _))
    have t1 : w.heap.size ≤ v1.heap.size := X1.out.size
    have Ev1 : Hid (Ex w v1) := Lib.hid ((Ex.refl w).chg X1.out (by omega))
    have KX : Hid (Blk v1 (w.heap.size) 25 [.int .i64 t.count, .int .i64 t.next, .int .i64 t.round, .slice A t.owns.length c]) := Lib.hid (by rw [hv1]; repeat' (first | with_reducible exact Blk.new_at _ _ _ (by simp) | with_reducible refine Blk.alloc ?_ _ | with_reducible refine Blk.drew ?_ | with_reducible refine Blk.far ?_ (by simp; omega) _))
    have lX : w.heap.size < v1.heap.size := KX.out.lt
    have KR : Hid (Blk v1 (w.heap.size + 1) 25 [.int .i64 0, .int .i64 0, .int .i64 0, .slice none 0 0]) := Lib.hid (by rw [hv1]; repeat' (first | with_reducible exact Blk.new_at _ _ _ (by simp) | with_reducible refine Blk.alloc ?_ _ | with_reducible refine Blk.drew ?_ | with_reducible refine Blk.far ?_ (by simp; omega) _))
    have lR : w.heap.size + 1 < v1.heap.size := KR.out.lt
    have DX := Lib.hid (HX.out.ex Ev1.out)
    clear hv1
    refine (tagsValidS_c t A c _ DX.out hn hc).mono ?_; rintro r w1 ⟨rfl, hb1⟩
    have Y1 : Hid (Chg 0 0 v1 w1) := Lib.hid (Chg.of_ex hb1)
    have s1 : v1.heap.size ≤ w1.heap.size := Y1.out.size
    have Ew1 : Hid (Ex w w1) := Lib.hid (Ev1.out.chg Y1.out (by omega))
    clear hb1
    replace KX : Hid (Blk w1 (w.heap.size) 25 [.int .i64 t.count, .int .i64 t.next, .int .i64 t.round, .slice A t.owns.length c]) := Lib.hid (KX.out.chg Y1.out (by omega))
    replace KR : Hid (Blk w1 (w.heap.size + 1) 25 [.int .i64 0, .int .i64 0, .int .i64 0, .slice none 0 0]) := Lib.hid (KR.out.chg Y1.out (by omega))
    replace DX := Lib.hid (HX.out.ex Ew1.out)
    obtain ⟨qX0, qX1, qX2, qX3⟩ := KX.out.c4
    have jX := KX.out.lt
    obtain ⟨qR0, qR1, qR2, qR3⟩ := KR.out.c4
    have jR := KR.out.lt
    have zR := KR.out.frozen
    rw [hv]
    go_wp2
    exact bodyPost_ret (v := .tuple #[.agg #[.int .i64 0, .int .i64 0, .int .i64 0, .slice none 0 0], .int .i64 0, .bool false]) (by first | (simp [results, Try.results38, go_sem, qR0, qR1]; done) | (simp [results, Try.results38, go_sem, qR0, qR1, qR2, qR3]; done)) rfl
      ⟨none, 0, rfl, Fr.none_ _ _ _ _, (by repeat' (first | with_reducible exact Ew1.out | with_reducible refine Ex.alloc ?_ _ | with_reducible refine Ex.drew ?_ | with_reducible refine Ex.put ?_ (by omega) _))⟩
  by_cases h64 : 64 < zs.length
  · have e : takeTags t zs = (noTags, 0, false) := if_neg (fun h => by have := h.2; omega)
    rw [e, ← hn1]
    have h64' : (64 : Int) < (n : Int) := by omega
    clear e hn1
    go_enter Try.func38, Try.ntmps38
    go_wp2_with fail
    refine name_calls ?_; intro v1 hv1
    have X1 : Hid (Chg (0) (0) w v1) := Lib.hid (by rw [hv1]; repeat' (first | with_reducible exact Chg.refl _ _ _ | with_reducible refine Chg.alloc ?_ _ | with_reducible refine Chg.drew ?_ | with_reducible refine Chg.set ?_ (by omega) _))
    have t1 : w.heap.size ≤ v1.heap.size := X1.out.size
    have Ev1 : Hid (Ex w v1) := Lib.hid ((Ex.refl w).chg X1.out (by omega))
    have KX : Hid (Blk v1 (w.heap.size) 25 [.int .i64 t.count, .int .i64 t.next, .int .i64 t.round, .slice A t.owns.length c]) := Lib.hid (by rw [hv1]; repeat' (first | with_reducible exact Blk.new_at _ _ _ (by simp) | with_reducible refine Blk.alloc ?_ _ | with_reducible refine Blk.drew ?_ | with_reducible refine Blk.far ?_ (by simp; omega) _))
    have lX : w.heap.size < v1.heap.size := KX.out.lt
    have KR : Hid (Blk v1 (w.heap.size + 1) 25 [.int .i64 0, .int .i64 0, .int .i64 0, .slice none 0 0]) := Lib.hid (by rw [hv1]; repeat' (first | with_reducible exact Blk.new_at _ _ _ (by simp) | with_reducible refine Blk.alloc ?_ _ | with_reducible refine Blk.drew ?_ | with_reducible refine Blk.far ?_ (by simp; omega) _))
    have lR : w.heap.size + 1 < v1.heap.size := KR.out.lt
    have DX := Lib.hid (HX.out.ex Ev1.out)
    clear hv1
    refine (tagsValidS_c t A c _ DX.out hn hc).mono ?_; rintro r w1 ⟨rfl, hb1⟩
    have Y1 : Hid (Chg 0 0 v1 w1) := Lib.hid (Chg.of_ex hb1)
    have s1 : v1.heap.size ≤ w1.heap.size := Y1.out.size
    have Ew1 : Hid (Ex w w1) := Lib.hid (Ev1.out.chg Y1.out (by omega))
    clear hb1
    replace KX : Hid (Blk w1 (w.heap.size) 25 [.int .i64 t.count, .int .i64 t.next, .int .i64 t.round, .slice A t.owns.length c]) := Lib.hid (KX.out.chg Y1.out (by omega))
    replace KR : Hid (Blk w1 (w.heap.size + 1) 25 [.int .i64 0, .int .i64 0, .int .i64 0, .slice none 0 0]) := Lib.hid (KR.out.chg Y1.out (by omega))
    replace DX := Lib.hid (HX.out.ex Ew1.out)
    obtain ⟨qX0, qX1, qX2, qX3⟩ := KX.out.c4
    have jX := KX.out.lt
    obtain ⟨qR0, qR1, qR2, qR3⟩ := KR.out.c4
    have jR := KR.out.lt
    have zR := KR.out.frozen
    rw [hv]
    go_wp2
    exact bodyPost_ret (v := .tuple #[.agg #[.int .i64 0, .int .i64 0, .int .i64 0, .slice none 0 0], .int .i64 0, .bool false]) (by first | (simp [results, Try.results38, go_sem, qR0, qR1]; done) | (simp [results, Try.results38, go_sem, qR0, qR1, qR2, qR3]; done)) rfl
      ⟨none, 0, rfl, Fr.none_ _ _ _ _, (by repeat' (first | with_reducible exact Ew1.out | with_reducible refine Ex.alloc ?_ _ | with_reducible refine Ex.drew ?_ | with_reducible refine Ex.put ?_ (by omega) _))⟩
  have HRS : Hid (takeTags t zs = takeAll t 0 zs) := Lib.hid (if_pos ⟨hv, by omega⟩)
  generalize takeTags t zs = res at HRS ⊢
  rw [← hn1] at hzn ⊢
  have h64' : ¬ (64 : Int) < (n : Int) := by omega
  have hn64 : n ≤ 64 := by omega
  clear hn1 h64
  go_enter Try.func38, Try.ntmps38
  go_wp2_with fail
  refine name_calls ?_; intro v1 hv1
  have X1 : Hid (Chg (0) (0) w v1) := Lib.hid (by rw [hv1]; repeat' (first | with_reducible exact Chg.refl _ _ _ | with_reducible refine Chg.alloc ?_ _ | with_reducible refine Chg.drew ?_ | with_reducible refine Chg.set ?_ (by omega) _))
  have t1 : w.heap.size ≤ v1.heap.size := X1.out.size
  have Ev1 : Hid (Ex w v1) := Lib.hid ((Ex.refl w).chg X1.out (by omega))
  have KX : Hid (Blk v1 (w.heap.size) 25 [.int .i64 t.count, .int .i64 t.next, .int .i64 t.round, .slice A t.owns.length c]) := Lib.hid (by rw [hv1]; repeat' (first | with_reducible exact Blk.new_at _ _ _ (by simp) | with_reducible refine Blk.alloc ?_ _ | with_reducible refine Blk.drew ?_ | with_reducible refine Blk.far ?_ (by simp; omega) _))
  have lX : w.heap.size < v1.heap.size := KX.out.lt
  have KR : Hid (Blk v1 (w.heap.size + 1) 25 [.int .i64 0, .int .i64 0, .int .i64 0, .slice none 0 0]) := Lib.hid (by rw [hv1]; repeat' (first | with_reducible exact Blk.new_at _ _ _ (by simp) | with_reducible refine Blk.alloc ?_ _ | with_reducible refine Blk.drew ?_ | with_reducible refine Blk.far ?_ (by simp; omega) _))
  have lR : w.heap.size + 1 < v1.heap.size := KR.out.lt
  have DX := Lib.hid (HX.out.ex Ev1.out)
  clear hv1
  refine (tagsValidS_c t A c _ DX.out hn hc).mono ?_; rintro r w1 ⟨rfl, hb1⟩
  have Y1 : Hid (Chg 0 0 v1 w1) := Lib.hid (Chg.of_ex hb1)
  have s1 : v1.heap.size ≤ w1.heap.size := Y1.out.size
  have Ew1 : Hid (Ex w w1) := Lib.hid (Ev1.out.chg Y1.out (by omega))
  clear hb1
  replace KX : Hid (Blk w1 (w.heap.size) 25 [.int .i64 t.count, .int .i64 t.next, .int .i64 t.round, .slice A t.owns.length c]) := Lib.hid (KX.out.chg Y1.out (by omega))
  replace KR : Hid (Blk w1 (w.heap.size + 1) 25 [.int .i64 0, .int .i64 0, .int .i64 0, .slice none 0 0]) := Lib.hid (KR.out.chg Y1.out (by omega))
  replace DX := Lib.hid (HX.out.ex Ew1.out)
  obtain ⟨qX0, qX1, qX2, qX3⟩ := KX.out.c4
  have jX := KX.out.lt
  obtain ⟨qR0, qR1, qR2, qR3⟩ := KR.out.c4
  have jR := KR.out.lt
  have zR := KR.out.frozen
  rw [hv]
  go_wp2_with fail
  refine name_calls ?_; intro v2 hv2
  have X2 : Hid (Chg (0) (0) w1 v2) := Lib.hid (by rw [hv2]; repeat' (first | with_reducible exact Chg.refl _ _ _ | with_reducible refine Chg.alloc ?_ _ | with_reducible refine Chg.drew ?_ | with_reducible refine Chg.set ?_ (by omega) _))
  have t2 : w1.heap.size ≤ v2.heap.size := X2.out.size
  have Ev2 : Hid (Ex w v2) := Lib.hid (Ew1.out.chg X2.out (by omega))
  clear qX0 qX1 qX2 qX3 jX
  clear qR0 qR1 qR2 qR3 jR zR
  replace KX : Hid (Blk v2 (w.heap.size) 25 [.int .i64 t.count, .int .i64 t.next, .int .i64 t.round, .slice A t.owns.length c]) := Lib.hid (KX.out.chg X2.out (by omega))
  replace KR : Hid (Blk v2 (w.heap.size + 1) 25 [.int .i64 0, .int .i64 0, .int .i64 0, .slice none 0 0]) := Lib.hid (KR.out.chg X2.out (by omega))
  replace DX := Lib.hid (HX.out.ex Ev2.out)
  clear hv2
  refine (l5Copy_c t A c _ DX.out hn hc hc2).mono ?_; rintro r w2 ⟨A2, c2, rfl, hf2, hb2⟩
  have Y2 : Hid (Chg 0 0 v2 w2) := Lib.hid (Chg.of_ex hb2)
  have s2 : v2.heap.size ≤ w2.heap.size := Y2.out.size
  have Ew2 : Hid (Ex w w2) := Lib.hid (Ev2.out.chg Y2.out (by omega))
  clear hb2
  replace KX : Hid (Blk w2 (w.heap.size) 25 [.int .i64 t.count, .int .i64 t.next, .int .i64 t.round, .slice A t.owns.length c]) := Lib.hid (KX.out.chg Y2.out (by omega))
  replace KR : Hid (Blk w2 (w.heap.size + 1) 25 [.int .i64 0, .int .i64 0, .int .i64 0, .slice none 0 0]) := Lib.hid (KR.out.chg Y2.out (by omega))
  replace DX := Lib.hid (HX.out.ex Ew2.out)
  have HF2 := Lib.hid hf2; clear hf2
  have WHF2 := Lib.hid HF2.out.row
  obtain ⟨qX0, qX1, qX2, qX3⟩ := KX.out.c4
  have jX := KX.out.lt
  obtain ⟨qR0, qR1, qR2, qR3⟩ := KR.out.c4
  have jR := KR.out.lt
  have zR := KR.out.frozen
  go_wp2
  obtain ⟨wE, hwE⟩ : ∃ wE : World, wE = w2.alloc (.cells #[.int .i64 t.count, .int .i64 t.next, .int .i64 t.round, .slice A2 t.owns.length c2] 25) := ⟨_, rfl⟩
  obtain ⟨gO, hgO⟩ : ∃ gO, gO = w2.heap.size := ⟨_, rfl⟩
  have HST : Hid (TakeLoop res zs gO w (.int .i64 0) (.int .i64 0) wE) := Lib.hid ⟨0, 0, t, A2, c2, rfl, rfl, Nat.zero_le _, Int.le_refl _, Int.le_refl _, hv, HRS.out.symm, by rw [hwE]; exact Ew2.out.alloc _, by rw [hwE, hgO]; exact Blk.new _ _ _, by rw [hwE]; exact KR.out.alloc _, by rw [hwE]; exact Fr.mono (B := v2.heap.size) (HF2.out.alloc _) (by omega), fun b hb => by have := WHF2.out b hb; omega⟩
  have hgw : w.heap.size + 1 < gO := by omega
  rw [← hwE]
  try rw [← hgO]
  clear hwE hgO
  clear qX0 qX1 qX2 qX3 jX
  clear KX
  clear qR0 qR1 qR2 qR3 jR zR
  clear KR
  clear HF2 WHF2
  clear HRS hv DX hn hc hc2
  go_loopw [8, 9] (fun s i wr => TakeLoop res zs gO w s i wr) (fun _ i _ => n - (intOf i).toNat)
  case atStart => exact HST.out
  case round =>
    clear HST
    obtain ⟨k, r, u, A3, c3, rfl, rfl, hk, hr0, hrk, hvu, hres, hex, hko, hkr, hf, hrow⟩ := hrel
    have HRES := Lib.hid hres
    have HVU := Lib.hid hvu
    have Ewr := Lib.hid hex
    have KO := Lib.hid hko
    have KR := Lib.hid hkr
    have HF := Lib.hid hf
    have WHF := Lib.hid HF.out.row
    have HROW := Lib.hid hrow
    have hnu : u.owns.length ≤ 1048576 := by have := (tv_few hvu).2; omega
    have hle := HF.out.le
    have hca := HF.out.cap
    have hsz := Ewr.out.size
    have hkn : k ≤ n := by have := HN.out; omega
    clear hres hvu hex hko hkr hf hrow
    obtain ⟨qO0, qO1, qO2, qO3⟩ := KO.out.c4
    have jO := KO.out.lt
    obtain ⟨qR0, qR1, qR2, qR3⟩ := KR.out.c4
    have jR := KR.out.lt
    have zR := KR.out.frozen
    have zO := KO.out.frozen
    have lgO : gO < wr.heap.size := KO.out.lt
    by_cases hlt : k < n
    · obtain ⟨zb, zo, z, hZ, hzb, hzk, hz0⟩ := Rd.int (HZ.out.ex Ewr.out) (k := k) (by have := HN.out; omega)
      subst hZ
      have C1 := Lib.hid (takeTagS_c u z)
      have HT : Hid ((takeTag u z).2.2.2 = true → tagsV (takeTag u z).1 = true) := Lib.hid take_valid
      have HS := HRES.out
      rw [takeAll_step hzk] at HS
      replace HS := Lib.hid HS
      clear hzk HRES HVU
      generalize takeTag u z = q at C1 HT HS
      obtain ⟨u5, g5, fr5, ok5⟩ := q
      dsimp only at C1 HT HS
      have hkn' : (k : Int) < (n : Int) := by omega
      have hk0' : (0 : Int) ≤ (k : Int) := by omega
      have hr64 : r ≤ 64 := by omega
      have FK : Hid (∀ w', Ex wr w' → (w'.cell? ⟨gO, 0, none⟩ = some (.int .i64 u.count) ∧ w'.cell? ⟨gO, 1, none⟩ = some (.int .i64 u.next) ∧ w'.cell? ⟨gO, 2, none⟩ = some (.int .i64 u.round) ∧ w'.cell? ⟨gO, 3, none⟩ = some (.slice A3 u.owns.length c3) ∧ w'.cell? ⟨zb, zo + k, none⟩ = some (.int .i64 z))) := Lib.hid (fun w' h => by
        obtain ⟨c0, c1, c2, c3⟩ := (KO.out.ex h).c4
        exact ⟨c0, c1, c2, c3, (h.cell hzb).trans hz0⟩)
      have RD1 : Hid (∀ w', Ex wr w' → Rd w' A3 u.owns) := Lib.hid (fun w' h => HF.out.rd.ex h)
      go_wp2_with fail
      go_region_held3 (fun w' => (w'.cell? ⟨gO, 0, none⟩ = some (.int .i64 u.count) ∧ w'.cell? ⟨gO, 1, none⟩ = some (.int .i64 u.next) ∧ w'.cell? ⟨gO, 2, none⟩ = some (.int .i64 u.round) ∧ w'.cell? ⟨gO, 3, none⟩ = some (.slice A3 u.owns.length c3) ∧ w'.cell? ⟨zb, zo + k, none⟩ = some (.int .i64 z))) ((refine FK.out _ ?_; with_reducible (first | exact Ex.refl _ | exact (Ex.refl _).drew | exact ((Ex.refl _).alloc _).drew | exact hba | exact hba.alloc _ | exact Ex.set (Ex.set (Ex.set (Ex.set hba (Nat.le_refl _) _) (Nat.le_refl _) _) (Nat.le_refl _) _) (Nat.le_refl _) _))) (first | (go_at_call 53; (with_reducible refine (C1.out A3 c3 _ ?_ hnu hle hca).mono ?_); (first | with_reducible exact RD1.out _ (Ex.refl _).drew | with_reducible exact RD1.out _ ((Ex.refl _).alloc _).drew); rintro r5 w5 ⟨A5, c5, rfl, hf5, hb5⟩; (first | (with_reducible (have hba : Ex wr w5 := (Ex.refl _).drew.trans hb5)) | (with_reducible (have hba : Ex wr w5 := ((Ex.refl _).alloc _).drew.trans hb5); have hz : Blk w5 wr.heap.size 25 [.int .i64 0, .int .i64 0, .int .i64 0, .slice none 0 0] := Blk.ex (Blk.drew (Blk.new wr 25 [.int .i64 0, .int .i64 0, .int .i64 0, .slice none 0 0])) hb5; obtain ⟨hz0', hz1, hz2, hz3⟩ := hz.c4; have hzf := hz.frozen; have hzl := hz.lt))))
      all_goals
        rename_i hHeld
        clear hHeld
        first
        | (obtain ⟨wN, hwN⟩ : ∃ wN : World, wN = w5.alloc (.cells #[.int .i64 u5.count, .int .i64 u5.next, .int .i64 u5.round, .slice A5 u5.owns.length c5] 25) := ⟨_, rfl⟩
           have KN : Hid (Blk wN w5.heap.size 25 [.int .i64 u5.count, .int .i64 u5.next, .int .i64 u5.round, .slice A5 u5.owns.length c5]) := Lib.hid (by rw [hwN]; exact Blk.new _ _ _)
           have EE : Hid (Ex wr wN) := Lib.hid (by rw [hwN]; exact hba.alloc _)
           have HF5 : Hid (Fr 50 wN wr.heap.size A5 c5 u5.owns) := Lib.hid (by rw [hwN]; exact (Fr.mono hf5 (by simp)).alloc _)
           obtain ⟨gN, hgN⟩ : ∃ gN, gN = w5.heap.size := ⟨_, rfl⟩
           have hgN2 : wr.heap.size ≤ gN := by have := hba.size; omega
           rw [← hgN] at KN
           rw [← hwN, ← hgN]
           clear hwN hgN)
        | (obtain ⟨wN, hwN⟩ : ∃ wN : World, wN = (((w5.setCell ⟨wr.heap.size, 0, none⟩ (.int .i64 u5.count)).setCell ⟨wr.heap.size, 1, none⟩ (.int .i64 u5.next)).setCell ⟨wr.heap.size, 2, none⟩ (.int .i64 u5.round)).setCell ⟨wr.heap.size, 3, none⟩ (.slice A5 u5.owns.length c5) := ⟨_, rfl⟩
           have KN : Hid (Blk wN wr.heap.size 25 [.int .i64 u5.count, .int .i64 u5.next, .int .i64 u5.round, .slice A5 u5.owns.length c5]) := Lib.hid (by rw [hwN]; exact Blk.put4 hz)
           have EE : Hid (Ex wr wN) := Lib.hid (by rw [hwN]; exact (((hba.set (Nat.le_refl _) _).set (Nat.le_refl _) _).set (Nat.le_refl _) _).set (Nat.le_refl _) _)
           have HF5 : Hid (Fr 50 wN wr.heap.size A5 c5 u5.owns) := Lib.hid (by
             rw [hwN]
             refine Fr.mono (B := wr.heap.size + 1) ?_ (by omega)
             have hf6 : Fr 50 w5 (wr.heap.size + 1) A5 c5 u5.owns := Fr.mono hf5 (by simp)
             exact (((hf6.set_below (by simp) _).set_below (by simp) _).set_below (by simp) _).set_below (by simp) _)
           obtain ⟨gN, hgN⟩ : ∃ gN, gN = wr.heap.size := ⟨_, rfl⟩
           have hgN2 : wr.heap.size ≤ gN := by omega
           rw [← hgN] at KN
           rw [← hwN, ← hgN]
           clear hwN hgN hz hz0' hz1 hz2 hz3 hzf hzl)
        have Y5 : Hid (Chg 0 0 wr wN) := Lib.hid (Chg.of_ex EE.out)
        have WHF5 := Lib.hid HF5.out.row
        clear hf5 hb5 hba FK RD1
        clear HF WHF
        have s5 : wr.heap.size ≤ wN.heap.size := Y5.out.size
        have EwN : Hid (Ex w wN) := Lib.hid (Ewr.out.chg Y5.out (by omega))
        clear qO0 qO1 qO2 qO3 jO zO
        clear qR0 qR1 qR2 qR3 jR zR
        replace KO : Hid (Blk wN (gO) 25 [.int .i64 u.count, .int .i64 u.next, .int .i64 u.round, .slice A3 u.owns.length c3]) := Lib.hid (KO.out.chg Y5.out (by omega))
        replace KR : Hid (Blk wN ((w.heap.size+1)) 25 [.int .i64 0, .int .i64 0, .int .i64 0, .slice none 0 0]) := Lib.hid (KR.out.chg Y5.out (by omega))
        obtain ⟨qO0, qO1, qO2, qO3⟩ := KO.out.c4
        have jO := KO.out.lt
        have zO := KO.out.frozen
        obtain ⟨qR0, qR1, qR2, qR3⟩ := KR.out.c4
        have jR := KR.out.lt
        have zR := KR.out.frozen
        obtain ⟨qN0, qN1, qN2, qN3⟩ := KN.out.c4
        have jN := KN.out.lt
        have hgOR : ¬ w.heap.size + 1 = gO := by omega
        have hgON : ¬ gN = gO := by omega
        have hgON' : ¬ gO = gN := by omega
        cases ok5
      · simp only [Bool.false_eq_true, if_false] at HS
        obtain rfl : (noTags, 0, false) = res := HS.out
        go_wp2
        exact bodyPost_ret (v := .tuple #[.agg #[.int .i64 0, .int .i64 0, .int .i64 0, .slice none 0 0], .int .i64 0, .bool false]) (by first | (simp [results, Try.results38, go_sem, qR0, qR1]; done) | (simp [results, Try.results38, go_sem, qR0, qR1, qR2, qR3]; done)) rfl
          ⟨none, 0, rfl, Fr.none_ _ _ _ _, (by repeat' (first | with_reducible exact EwN.out | with_reducible refine Ex.alloc ?_ _ | with_reducible refine Ex.drew ?_ | with_reducible refine Ex.put ?_ (by omega) _))⟩
      · simp only [if_true] at HS
        cases fr5
        · simp only [Bool.false_eq_true, if_false] at HS
          go_wp2
          go_roundw
          case rel => exact ⟨k + 1, r, u5, A5, c5, by go_num, rfl, by have := HN.out; omega, hr0, by omega, HT.out rfl, HS.out, (by repeat' (first | with_reducible exact EwN.out | with_reducible refine Ex.alloc ?_ _ | with_reducible refine Ex.drew ?_ | with_reducible refine Ex.put ?_ (by omega) _)), Blk.put4 KO.out, by repeat' (first | with_reducible exact KR.out | with_reducible refine Blk.alloc ?_ _ | with_reducible refine Blk.far ?_ hgOR _), Fr.mono (B := wr.heap.size) (by repeat' (first | with_reducible exact HF5.out | with_reducible refine Fr.alloc ?_ _ | with_reducible refine Fr.put ?_ (fun b hb => by have := WHF5.out b hb; omega) _)) (by omega), fun b hb => by have := WHF5.out b hb; omega⟩
          case measure => simp [intOf]; omega
        · simp only [if_true] at HS
          go_wp2
          go_roundw
          case rel => exact ⟨k + 1, r + 1, u5, A5, c5, by go_num, rfl, by have := HN.out; omega, by omega, by omega, HT.out rfl, HS.out, (by repeat' (first | with_reducible exact EwN.out | with_reducible refine Ex.alloc ?_ _ | with_reducible refine Ex.drew ?_ | with_reducible refine Ex.put ?_ (by omega) _)), Blk.put4 KO.out, by repeat' (first | with_reducible exact KR.out | with_reducible refine Blk.alloc ?_ _ | with_reducible refine Blk.far ?_ hgOR _), Fr.mono (B := wr.heap.size) (by repeat' (first | with_reducible exact HF5.out | with_reducible refine Fr.alloc ?_ _ | with_reducible refine Fr.put ?_ (fun b hb => by have := WHF5.out b hb; omega) _)) (by omega), fun b hb => by have := WHF5.out b hb; omega⟩
          case measure => simp [intOf]; omega
      · simp only [Bool.false_eq_true, if_false] at HS
        obtain rfl : (noTags, 0, false) = res := HS.out
        go_wp2
        exact bodyPost_ret (v := .tuple #[.agg #[.int .i64 0, .int .i64 0, .int .i64 0, .slice none 0 0], .int .i64 0, .bool false]) (by first | (simp [results, Try.results38, go_sem, qR0, qR1]; done) | (simp [results, Try.results38, go_sem, qR0, qR1, qR2, qR3]; done)) rfl
          ⟨none, 0, rfl, Fr.none_ _ _ _ _, (by repeat' (first | with_reducible exact EwN.out | with_reducible refine Ex.alloc ?_ _ | with_reducible refine Ex.drew ?_ | with_reducible refine Ex.put ?_ (by omega) _))⟩
      · simp only [if_true] at HS
        cases fr5
        · simp only [Bool.false_eq_true, if_false] at HS
          go_wp2
          go_roundw
          case rel => exact ⟨k + 1, r, u5, A5, c5, by go_num, rfl, by have := HN.out; omega, hr0, by omega, HT.out rfl, HS.out, (by repeat' (first | with_reducible exact EwN.out | with_reducible refine Ex.alloc ?_ _ | with_reducible refine Ex.drew ?_ | with_reducible refine Ex.put ?_ (by omega) _)), Blk.put4 KO.out, by repeat' (first | with_reducible exact KR.out | with_reducible refine Blk.alloc ?_ _ | with_reducible refine Blk.far ?_ hgOR _), Fr.mono (B := wr.heap.size) (by repeat' (first | with_reducible exact HF5.out | with_reducible refine Fr.alloc ?_ _ | with_reducible refine Fr.put ?_ (fun b hb => by have := WHF5.out b hb; omega) _)) (by omega), fun b hb => by have := WHF5.out b hb; omega⟩
          case measure => simp [intOf]; omega
        · simp only [if_true] at HS
          go_wp2
          go_roundw
          case rel => exact ⟨k + 1, r + 1, u5, A5, c5, by go_num, rfl, by have := HN.out; omega, by omega, by omega, HT.out rfl, HS.out, (by repeat' (first | with_reducible exact EwN.out | with_reducible refine Ex.alloc ?_ _ | with_reducible refine Ex.drew ?_ | with_reducible refine Ex.put ?_ (by omega) _)), Blk.put4 KO.out, by repeat' (first | with_reducible exact KR.out | with_reducible refine Blk.alloc ?_ _ | with_reducible refine Blk.far ?_ hgOR _), Fr.mono (B := wr.heap.size) (by repeat' (first | with_reducible exact HF5.out | with_reducible refine Fr.alloc ?_ _ | with_reducible refine Fr.put ?_ (fun b hb => by have := WHF5.out b hb; omega) _)) (by omega), fun b hb => by have := WHF5.out b hb; omega⟩
          case measure => simp [intOf]; omega
    · obtain rfl : (u, r, true) = res := by have := HRES.out; rwa [takeAll_end (by have := HN.out; omega)] at this
      have hkn' : ¬ (k : Int) < (n : Int) := by omega
      have hgOR : ¬ w.heap.size + 1 = gO := by omega
      go_wp2
      exact bodyPost_ret (v := .tuple #[.agg #[.int .i64 u.count, .int .i64 u.next, .int .i64 u.round, .slice A3 u.owns.length c3], .int .i64 r, .bool true]) (by first | (simp [results, Try.results38, go_sem, qR0, qR1]; done) | (simp [results, Try.results38, go_sem, qR0, qR1, qR2, qR3]; done)) rfl
        ⟨A3, c3, rfl, Fr.mono (B := w.heap.size + 2) (by repeat' (first | with_reducible exact HF.out | with_reducible refine Fr.alloc ?_ _ | with_reducible refine Fr.put ?_ (fun b hb => by have := WHF.out b hb; omega) _)) (by omega), (by repeat' (first | with_reducible exact Ewr.out | with_reducible refine Ex.alloc ?_ _ | with_reducible refine Ex.drew ?_ | with_reducible refine Ex.put ?_ (by omega) _))⟩
end Go.Proofs.Ytidnefcnojedoaa
