/- The reference's l4Drop. -/
import Derived.Test.YtcaaficjcghheabDr
namespace Go.Proofs.Ytcaaficjcghheab
open Go.ChangeShapes Go.WideShapes Go.ChangeAt Go.RowKit
open Rec (sz cs)
set_option linter.unusedVariables false
set_option maxRecDepth 100000

set_option maxHeartbeats 4000000 in
theorem l4Drop_c (t : CacheD) (tag : Int) (all : Bool) (A : Option Addr) (c : Nat) (w : World) (hx : Rd w A t.lines) (hn : t.lines.length ≤ 1048576) (hc : t.lines.length ≤ c) (hc2 : c ≤ maxLen) (h0 : 0 < t.lines.length) :
    Calls Try.prog 45 #[.agg #[.slice A t.lines.length c, .int .i64 t.hand], .int .i64 tag, .bool all] w fun r w' => ∃ A' c', r = .returned (.agg #[.slice A' t.lines.length c', .int .i64 t.hand]) ∧ Fr 31 w' w.heap.size A' c' (dropIf t (fun x => all || (x.tag == tag))).lines ∧ Ex w w' := by
  obtain ⟨xs, hand⟩ := t
  change Calls _ _ #[.agg #[.slice A xs.length c, .int .i64 hand], _, _] w (fun r w' => ∃ A' c', r = .returned (.agg #[.slice A' xs.length c', .int .i64 hand]) ∧ Fr 31 w' w.heap.size A' c' (xs.map (dropL (fun x => all || (x.tag == tag)))) ∧ Ex w w')
  simp only at hx hn hc h0
  have HX := Lib.hid hx
  have C1 := Lib.hid (fun A c w hx => l4Copy_c ⟨xs, hand⟩ A c w hx hn)
  dsimp only at C1
  obtain ⟨n, hn1⟩ : ∃ n, n = xs.length := ⟨_, rfl⟩
  have HN := Lib.hid hn1
  rw [← hn1] at hn hc h0 C1 ⊢
  clear hx hn1
  go_enter Try.func45, Try.ntmps45
  go_wp2_with fail
  refine name_calls ?_; intro v1 hv1
  have X1 : Hid (Chg (0) (0) w v1) := Lib.hid (by rw [hv1]; repeat' (first | with_reducible exact Chg.refl _ _ _ | with_reducible refine Chg.alloc ?_ _ | with_reducible refine Chg.drew ?_ | with_reducible refine Chg.set ?_ (by omega) _))
  have t1 : w.heap.size ≤ v1.heap.size := X1.out.size
  have Ev1 : Hid (Ex w v1) := Lib.hid ((Ex.refl w).chg X1.out (by omega))
  have KX : Hid (Blk v1 (w.heap.size) 25 [.slice A n c, .int .i64 hand]) := Lib.hid (by rw [hv1]; repeat' (first | with_reducible exact Blk.new_at _ _ _ (by simp) | with_reducible refine Blk.alloc ?_ _ | with_reducible refine Blk.drew ?_ | with_reducible refine Blk.far ?_ (by simp; omega) _))
  have lX : w.heap.size < v1.heap.size := KX.out.lt
  have KR : Hid (Blk v1 (w.heap.size + 1) 25 [.slice none 0 0, .int .i64 0]) := Lib.hid (by rw [hv1]; repeat' (first | with_reducible exact Blk.new_at _ _ _ (by simp) | with_reducible refine Blk.alloc ?_ _ | with_reducible refine Blk.drew ?_ | with_reducible refine Blk.far ?_ (by simp; omega) _))
  have lR : w.heap.size + 1 < v1.heap.size := KR.out.lt
  have DX := Lib.hid (HX.out.ex Ev1.out)
  clear hv1
  refine (C1.out A c _ DX.out hc hc2).mono ?_; rintro r w1 ⟨A2, c2, rfl, hf1, hb1⟩
  have Y1 : Hid (Chg 0 0 v1 w1) := Lib.hid (Chg.of_ex hb1)
  have s1 : v1.heap.size ≤ w1.heap.size := Y1.out.size
  have Ew1 : Hid (Ex w w1) := Lib.hid (Ev1.out.chg Y1.out (by omega))
  clear hb1
  replace KX : Hid (Blk w1 (w.heap.size) 25 [.slice A n c, .int .i64 hand]) := Lib.hid (KX.out.chg Y1.out (by omega))
  replace KR : Hid (Blk w1 (w.heap.size + 1) 25 [.slice none 0 0, .int .i64 0]) := Lib.hid (KR.out.chg Y1.out (by omega))
  replace DX := Lib.hid (HX.out.ex Ew1.out)
  have HF1 := Lib.hid hf1; clear hf1
  have WHF1 := Lib.hid HF1.out.row
  obtain ⟨qX0, qX1⟩ := KX.out.c2
  have jX := KX.out.lt
  obtain ⟨qR0, qR1⟩ := KR.out.c2
  have jR := KR.out.lt
  obtain ⟨g, rest, rfl, hBg, hbk, hrest⟩ := HF1.out.open_ (k := 0) (by have := HN.out; omega)
  have hca := HF1.out.cap
  have hle : n ≤ c2 := Nat.le_trans (Nat.le_of_eq HN.out) HF1.out.le
  have HREST := Lib.hid hrest
  have BG := Lib.hid hbk
  have jg0 := Blk.lt hbk
  clear hbk hrest
  go_wp2
  obtain ⟨wE, hwE⟩ : ∃ wE : World, wE = w1.alloc (.cells #[.slice (some ⟨g, 0, none⟩) n c2, .int .i64 hand] 25) := ⟨_, rfl⟩
  have KN : Hid (Blk wE w1.heap.size 25 [.slice (some ⟨g, 0, none⟩) n c2, .int .i64 hand]) := Lib.hid (by rw [hwE]; exact Blk.new _ _ _)
  have EE : Hid (Ex w wE) := Lib.hid (by rw [hwE]; exact Ew1.out.alloc _)
  have BE : Hid (Bk 31 wE g xs rest) := Lib.hid (by rw [hwE]; exact BG.out.alloc _)
  have KRE : Hid (Blk wE (w.heap.size + 1) 25 [.slice none 0 0, .int .i64 0]) := Lib.hid (by rw [hwE]; exact KR.out.alloc _)
  obtain ⟨gN, hgN⟩ : ∃ gN, gN = w1.heap.size := ⟨_, rfl⟩
  have hne : g < gN := by omega
  have hgw : w.heap.size + 1 < g := by omega
  rw [← hgN] at KN
  rw [← hwE, ← hgN]
  clear hwE hgN
  clear qX0 qX1 jX
  clear KX
  clear qR0 qR1 jR
  clear KR
  clear HF1 WHF1
  go_loopw [8] (fun i wr => ∃ k : Nat, k ≤ n ∧ i = .int .i64 k ∧ Chg g (g + 1) wE wr ∧ Bk 31 wr g (dropUp xs (fun x => all || (x.tag == tag)) k) rest) (fun i _ => n - (intOf i).toNat)
  case atStart => exact ⟨0, Nat.zero_le _, rfl, Chg.refl _ _ _, by rw [dropUp_zero]; exact BE.out⟩
  case round =>
    obtain ⟨k, hk, rfl, hch, hbk⟩ := hrel
    have HCH := Lib.hid hch
    have HBK := Lib.hid hbk
    have EW : Hid (Ex w wr) := Lib.hid (EE.out.chg hch (by omega))
    have KNr : Hid (Blk wr gN 25 [.slice (some ⟨g, 0, none⟩) n c2, .int .i64 hand]) := Lib.hid (KN.out.chg hch (by omega))
    clear hch hbk
    have jg := Blk.lt HBK.out
    obtain ⟨n0, n1⟩ := KNr.out.c2
    have jN := KNr.out.lt
    by_cases hlt : k < n
    · obtain ⟨x, hxk⟩ : ∃ x, xs[k]? = some x := ⟨_, List.getElem?_eq_getElem (by have := HN.out; omega)⟩
      have HXK := Lib.hid hxk
      obtain ⟨d0, d1, d2, d3, d4, d5⟩ := HBK.out.line (dropUp_get hxk)
      have hfz := HBK.out.frozen
      clear hxk
      have hk0 : ¬ ((k : Int) < 0) := by omega
      have hkn : (k : Int) < (n : Int) := by omega
      have HL : Hid (k < (dropUp xs (fun x => all || (x.tag == tag)) k).length) := Lib.hid (by rw [dropUp_length]; have := HN.out; omega)
      cases hw : x.wired
      · rw [hw] at d5
        cases hp : (all || (x.tag == tag))
        · have HD : Hid (dropUp xs (fun x => all || (x.tag == tag)) (k + 1) = dropUp xs (fun x => all || (x.tag == tag)) k) := Lib.hid (dropUp_keep HXK.out (by unfold dropL; simp only [hp]; simp))
          rw [Bool.or_eq_false_iff] at hp
          obtain ⟨rfl, hp2⟩ := hp
          go_wp2
          go_roundw
          case rel => exact ⟨k + 1, by omega, by go_num, HCH.out, by rw [HD.out]; exact HBK.out⟩
          case measure => simp [intOf]; omega
        · have HD : Hid (dropUp xs (fun x => all || (x.tag == tag)) (k + 1) = (dropUp xs (fun x => all || (x.tag == tag)) k).set k noLine) := Lib.hid (by rw [dropUp_set HXK.out]; unfold dropL; simp only [hw, hp]; simp)
          cases all
          · have hp2 : (x.tag == tag) = true := by simpa using hp
            clear hp
            go_wp2
            go_roundw
            case rel => exact ⟨k + 1, by omega, by go_num, (((((HCH.out.set (by omega) _).set (by omega) _).set (by omega) _).set (by omega) _).set (by omega) _).set (by omega) _, by rw [HD.out]; exact HBK.out.set_line noLine HL.out⟩
            case measure => simp [intOf]; omega
          · clear hp
            go_wp2
            go_roundw
            case rel => exact ⟨k + 1, by omega, by go_num, (((((HCH.out.set (by omega) _).set (by omega) _).set (by omega) _).set (by omega) _).set (by omega) _).set (by omega) _, by rw [HD.out]; exact HBK.out.set_line noLine HL.out⟩
            case measure => simp [intOf]; omega
      · have HD : Hid (dropUp xs (fun x => all || (x.tag == tag)) (k + 1) = dropUp xs (fun x => all || (x.tag == tag)) k) := Lib.hid (dropUp_keep HXK.out (by unfold dropL; simp [hw]))
        rw [hw] at d5
        go_wp2
        go_roundw
        case rel => exact ⟨k + 1, by omega, by go_num, HCH.out, by rw [HD.out]; exact HBK.out⟩
        case measure => simp [intOf]; omega
    · obtain rfl : k = n := by omega
      have HKR : Hid (Blk wr (w.heap.size + 1) 25 [.slice none 0 0, .int .i64 0]) := Lib.hid (KRE.out.chg HCH.out (by omega))
      have HDF : Hid (dropUp xs (fun x => all || (x.tag == tag)) k = xs.map (dropL (fun x => all || (x.tag == tag)))) := Lib.hid (by rw [HN.out]; exact dropUp_full _ _)
      obtain ⟨r0, r1⟩ := HKR.out.c2
      have rfz := HKR.out.frozen
      have jr := HKR.out.lt
      have hnr' : g ≠ w.heap.size + 1 := by omega
      have HLE : Hid ((c2 - (xs.map (dropL (fun x => all || (x.tag == tag)))).length) * sz LineD ≤ rest.length) := Lib.hid (by rw [List.length_map]; exact HREST.out)
      have HLL : Hid ((xs.map (dropL (fun x => all || (x.tag == tag)))).length ≤ c2) := Lib.hid (by rw [List.length_map, ← HN.out]; exact hle)
      have H9 : Hid (Bk 31 ((wr.setCell ⟨w.heap.size + 1, 0, none⟩ (.slice (some ⟨g, 0, none⟩) k c2)).setCell ⟨w.heap.size + 1, 1, none⟩ (.int .i64 hand)) g (xs.map (dropL (fun x => all || (x.tag == tag)))) rest) := Lib.hid (by rw [← HDF.out]; exact (HBK.out.far hnr' _).far hnr' _)
      go_wp2
      exact bodyPost_ret (v := .agg #[.slice (some ⟨g, 0, none⟩) k c2, .int .i64 hand]) (by simp [results, Try.results45, go_sem, r0, r1]) rfl
        ⟨some ⟨g, 0, none⟩, c2, rfl, Fr.close H9.out (by omega) HLE.out HLL.out hca, (EW.out.put (by omega) _).put (by omega) _⟩

theorem dropIf_len (t : CacheD) (p : LineD → Bool) : (dropIf t p).lines.length = t.lines.length := by simp [dropIf]
theorem cacheV_pos {t : CacheD} (h : cacheV t = true) : 0 < t.lines.length := by have := ((cv_iff t).1 h).n1; omega

end Go.Proofs.Ytcaaficjcghheab
