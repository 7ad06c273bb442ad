/- dropIf at the closure of DropTag: the walk. -/
import Derived.Test.YtcaaficjcghheabDr
namespace Go.Proofs.Ytcaaficjcghheab
open Go.ChangeShapes Go.WideShapes Go.ChangeAt Go.RowKit
open Rec (sz cs)
set_option linter.unusedVariables false
set_option maxRecDepth 100000

set_option maxHeartbeats 400000 in
theorem dropTag1_c (x : LineD) (tag : Int) (w : World) (gt : Nat) (ht : Blk w gt 3 [.int .i64 tag]) : Calls Try.prog 51 #[.agg #[.bool x.valid, .int .i64 x.tag, .int .i64 x.page, .int .i64 x.frame, .int .i64 x.rights, .bool x.wired], .pointer (some ⟨gt, 0, none⟩)] w fun r w' => r = .returned (.bool (x.tag == tag)) ∧ Ex w w' := by
  have t0 := ht.c1
  have lt := ht.lt
  clear ht
  go_enter Try.func51, Try.ntmps51
  go_wp2
  go_ret
  exact ⟨rfl, by first | exact Ex.refl _ | exact (Ex.refl _).alloc _⟩

set_option maxHeartbeats 4000000 in
theorem dropIfT_c (t : CacheD) (tag : Int) (gt : Nat) (A : Option Addr) (c : Nat) (w : World) (hx : Rd w A t.lines) (hn : t.lines.length ≤ 1048576) (hc : t.lines.length ≤ c) (hc2 : c ≤ maxLen) (h0 : 0 < t.lines.length) (ht : Blk w gt 3 [.int .i64 tag]) :
    Calls Try.prog 42 #[.agg #[.slice A t.lines.length c, .int .i64 t.hand], .func (.func 51) #[] #[.pointer (some ⟨gt, 0, none⟩)]] w fun r w' => ∃ A', r = .returned (.agg #[.slice A' t.lines.length t.lines.length, .int .i64 t.hand]) ∧ Fr 31 w' w.heap.size A' t.lines.length (dropIf t (fun x => x.tag == tag)).lines ∧ Ex w w' := by
  obtain ⟨xs, hand⟩ := t
  change Calls _ _ #[.agg #[.slice A xs.length c, .int .i64 hand], _] w (fun r w' => ∃ A', r = .returned (.agg #[.slice A' xs.length xs.length, .int .i64 hand]) ∧ Fr 31 w' w.heap.size A' xs.length (xs.map (dropL (fun x => x.tag == tag))) ∧ Ex w w')
  simp only at hx hn hc h0
  have HX := Lib.hid hx
  have CLN := Lib.hid (fun A c w hx => clone_c A c xs w hx hn)
  obtain ⟨n, hn1⟩ : ∃ n, n = xs.length := ⟨_, rfl⟩
  have HN := Lib.hid hn1
  rw [← hn1] at hn hc h0 CLN ⊢
  clear hx hn1
  have HT := Lib.hid ht
  clear ht
  go_enter Try.func42, Try.ntmps42
  go_wp2_with fail
  obtain ⟨w0, hw0⟩ : ∃ w0 : World, w0 = ((w.alloc (.cells #[.slice A n c, .int .i64 hand] 25)).alloc (.cells #[.slice none 0 0, .int .i64 0] 25)) := ⟨_, rfl⟩
  have E0 : Hid (Ex w w0) := Lib.hid (by rw [hw0]; exact ((Ex.refl w).alloc _).alloc _)
  have KC : Hid (Blk w0 w.heap.size 25 [.slice A n c, .int .i64 hand]) := Lib.hid (by rw [hw0]; exact (Blk.new _ _ _).alloc _)
  have KR : Hid (Blk w0 (w.heap.size + 1) 25 [.slice none 0 0, .int .i64 0]) := Lib.hid (by rw [hw0]; exact Blk.new_at _ _ _ (by simp))
  have HX0 : Hid (Rd w0 A xs) := Lib.hid (HX.out.ex E0.out)
  obtain ⟨gc, hgc⟩ : ∃ gc : Nat, gc = w.heap.size := ⟨_, rfl⟩
  rw [← hw0, ← hgc]
  rw [← hgc] at KC KR
  have HG := Lib.hid hgc
  have HNE : Hid (¬ gc = w0.heap.size ∧ ¬ w0.heap.size = gc) := Lib.hid (by have := KC.out.lt; omega)
  clear hw0 hgc
  go_region_held3 (fun w' => (w'.cell? ⟨gc, 0, none⟩ = some (.slice A n c) ∧ w'.cell? ⟨gc, 1, none⟩ = some (.int .i64 hand))) (first | exact KC.out.c2 | exact (Blk.drew KC.out).c2 | exact ((Blk.drew KC.out).alloc _).c2 | exact (Blk.ex (Blk.drew KC.out) hba).c2 | exact (Blk.ex ((Blk.drew KC.out).alloc _) hba).c2 | exact ((Blk.ex (Blk.drew KC.out) hba).alloc _).c2 | go_keep) (first | (go_at_call 73; (with_reducible refine (CLN.out A c _ ?_ hc hc2).mono ?_); (first | exact Rd.drew HX0.out | exact (Rd.drew HX0.out).alloc _); rintro r wa ⟨A2, c2, rfl, hfa, hba⟩; (first | (have hk := Blk.ex (Blk.drew KC.out) hba) | (have hk := Blk.ex ((Blk.drew KC.out).alloc _) hba; have hz : Blk wa w0.heap.size 25 [.slice none 0 0, .int .i64 0] := Blk.ex (Blk.new w0.drew 25 [.slice none 0 0, .int .i64 0]) hba; obtain ⟨hz0, hz1⟩ := hz.c2; have hzf := hz.frozen; have hzl := hz.lt; have hzn := HNE.out)); obtain ⟨hk0, hk1⟩ := hk.c2; have lk := hk.lt; clear hk) | (go_at_call 72; (with_reducible refine (clip_c A2 n c2 _ (Nat.le_trans (Nat.le_of_eq HN.out) hfa.le) hfa.cap).mono ?_); rintro r wb ⟨rfl, rfl⟩))
  all_goals
    rename_i hHeld
    clear hHeld hk0 hk1 lk
    obtain ⟨g, rest, rfl, hBg, hbk, hrest⟩ := hfa.open_ (k := 0) (by have := HN.out; omega)
    have hgl := Blk.lt hbk
    have hBg' : w0.heap.size ≤ g := by first | exact hBg | (simp at hBg; omega)
    have hba0 : Ex w0 wa := by first | exact ((Ex.refl w0).drew).trans hba | exact (((Ex.refl w0).drew).alloc _).trans hba
  all_goals
    first
      | (obtain ⟨wE, hwE⟩ : ∃ wE : World, wE = wa.alloc (.cells #[.slice (some ⟨g, 0, none⟩) n n, .int .i64 hand] 25) := ⟨_, rfl⟩
         have KN : Hid (Blk wE wa.heap.size 25 [.slice (some ⟨g, 0, none⟩) n n, .int .i64 hand]) := Lib.hid (by rw [hwE]; exact Blk.new _ _ _)
         have EE : Hid (Ex w0 wE) := Lib.hid (by rw [hwE]; exact hba0.alloc _)
         have BG : Hid (Bk 31 wE g xs rest) := Lib.hid (by rw [hwE]; exact hbk.alloc _)
         obtain ⟨gN, hgN⟩ : ∃ gN, gN = wa.heap.size := ⟨_, rfl⟩
         have hne : g ≠ gN := by omega
         have hgE : w0.heap.size ≤ gN := by have := hba0.size; omega
         rw [← hgN] at KN
         rw [← hwE, ← hgN]
         clear hwE hgN)
      | (obtain ⟨wE, hwE⟩ : ∃ wE : World, wE = (wa.setCell ⟨w0.heap.size, 0, none⟩ (.slice (some ⟨g, 0, none⟩) n n)).setCell ⟨w0.heap.size, 1, none⟩ (.int .i64 hand) := ⟨_, rfl⟩
         have hne : g ≠ w0.heap.size := by simp at hBg; omega
         have KN : Hid (Blk wE w0.heap.size 25 [.slice (some ⟨g, 0, none⟩) n n, .int .i64 hand]) := Lib.hid (by rw [hwE]; exact Blk.set (Blk.set hz 0 _) 1 _)
         have EE : Hid (Ex w0 wE) := Lib.hid (by rw [hwE]; exact (hba0.set (Nat.le_refl _) _).set (Nat.le_refl _) _)
         have BG : Hid (Bk 31 wE g xs rest) := Lib.hid (by rw [hwE]; exact (hbk.far hne _).far hne _)
         obtain ⟨gN, hgN⟩ : ∃ gN, gN = w0.heap.size := ⟨_, rfl⟩
         have hgE : w0.heap.size ≤ gN := by omega
         rw [← hgN] at KN hne
         rw [← hwE, ← hgN]
         clear hwE hgN hz hz0 hz1 hzf hzl hzn)
  all_goals
    clear hfa hba hba0 hbk hgl hBg
    clear hrest
    obtain ⟨n0, n1⟩ := KN.out.c2
    have jN := KN.out.lt
    go_wp2
    clear n0 n1 jN
    go_loopw [18] (fun i wr => ∃ k : Nat, k ≤ n ∧ i = .int .i64 k ∧ Chg g (g + 1) wE wr ∧ Bk 31 wr g (dropUp xs (fun x => x.tag == tag) k) rest) (fun i _ => n - (intOf i).toNat)
    case atStart => exact ⟨0, Nat.zero_le _, rfl, Chg.refl _ _ _, by rw [dropUp_zero]; exact BG.out⟩
    case round =>
      obtain ⟨k, hk, rfl, hch, hbk⟩ := hrel
      have HCH := Lib.hid hch
      have HBK := Lib.hid hbk
      have EW0 : Hid (Ex w0 wr) := Lib.hid (EE.out.chg hch (by omega))
      have EW : Hid (Ex w wr) := Lib.hid (E0.out.trans EW0.out)
      have KNr : Hid (Blk wr gN 25 [.slice (some ⟨g, 0, none⟩) n n, .int .i64 hand]) := Lib.hid (KN.out.chg hch (by omega))
      clear hch hbk
      have jg := Blk.lt HBK.out
      obtain ⟨n0, n1⟩ := KNr.out.c2
      have jN := KNr.out.lt
      by_cases hlt : k < n
      · obtain ⟨x, hxk⟩ : ∃ x, xs[k]? = some x := ⟨_, List.getElem?_eq_getElem (by have := HN.out; omega)⟩
        have HXK := Lib.hid hxk
        obtain ⟨d0, d1, d2, d3, d4, d5⟩ := HBK.out.line (dropUp_get hxk)
        have hfz := HBK.out.frozen
        clear hxk
        cases hw : x.wired
        · rw [hw] at d5
          go_wp2_with fail
          refine name_calls ?_
          intro v1 hv1
          have Y1 : Hid (Chg 0 0 wr v1) := Lib.hid (by rw [hv1]; exact (Chg.refl _ _ _).alloc _)
          have hcl := dropTag1_c x tag v1 gt ((HT.out.ex EW.out).chg Y1.out (by omega))
          rw [hw] at hcl
          refine hcl.mono ?_
          rintro r w2 ⟨rfl, hb2⟩
          have Y2 : Hid (Chg 0 0 wr w2) := Lib.hid (Y1.out.trans (Chg.of_ex hb2))
          have KN2 : Hid (Blk w2 gN 25 [.slice (some ⟨g, 0, none⟩) n n, .int .i64 hand]) := Lib.hid (KNr.out.chg Y2.out (by omega))
          have HB2 : Hid (Bk 31 w2 g (dropUp xs (fun x => x.tag == tag) k) rest) := Lib.hid (Blk.chg HBK.out Y2.out (by omega))
          have X2 : Hid (Chg g (g + 1) wE w2) := Lib.hid (HCH.out.trans (Y2.out.mono' g (g + 1)))
          have jg2 := Blk.lt HB2.out
          clear hb2 hv1 n0 n1 jN d0 d1 d2 d3 d4 d5 hfz
          obtain ⟨n0, n1⟩ := KN2.out.c2
          have jN := KN2.out.lt
          obtain ⟨d0, d1, d2, d3, d4, d5⟩ := HB2.out.line (dropUp_get HXK.out)
          have hfz := HB2.out.frozen
          cases hp : (x.tag == tag)
          · have HD : Hid (dropUp xs (fun x => x.tag == tag) (k + 1) = dropUp xs (fun x => x.tag == tag) k) := Lib.hid (dropUp_keep HXK.out (by first | (cases hp; done) | (unfold dropL; simp only [hp]; simp)))
            clear hp
            go_wp2
            go_roundw
            case rel => exact ⟨k + 1, by omega, by go_num, X2.out, by rw [HD.out]; exact HB2.out⟩
            case measure => simp [intOf]; omega
          · have HD : Hid (dropUp xs (fun x => x.tag == tag) (k + 1) = (dropUp xs (fun x => x.tag == tag) k).set k noLine) := Lib.hid (by rw [dropUp_set HXK.out]; show (dropUp xs _ k).set k (if (!x.wired && (x.tag == tag)) = true then noLine else x) = _; first | (rw [hw, hp]; rfl) | (rw [hw]; rfl))
            have HL : Hid (k < (dropUp xs (fun x => x.tag == tag) k).length) := Lib.hid (by rw [dropUp_length]; have := HN.out; omega)
            clear hp
            have hk0 : ¬ ((k : Int) < 0) := by omega
            have hkn : (k : Int) < (n : Int) := by omega
            go_wp2
            go_roundw
            case rel => exact ⟨k + 1, by omega, by go_num, (((((X2.out.set (by omega) _).set (by omega) _).set (by omega) _).set (by omega) _).set (by omega) _).set (by omega) _, by rw [HD.out]; exact HB2.out.set_line noLine HL.out⟩
            case measure => simp [intOf]; omega
        · have HD : Hid (dropUp xs (fun x => x.tag == tag) (k + 1) = dropUp xs (fun x => x.tag == tag) k) := Lib.hid (dropUp_keep HXK.out (by unfold dropL; simp [hw]))
          rw [hw] at d5
          go_wp2
          go_roundw
          case rel => exact ⟨k + 1, by omega, by go_num, HCH.out.alloc _, by rw [HD.out]; exact HBK.out.alloc _⟩
          case measure => simp [intOf]; omega
      · obtain rfl : k = n := by omega
        have HKR : Hid (Blk wr (gc + 1) 25 [.slice none 0 0, .int .i64 0]) := Lib.hid ((KR.out.ex EE.out).chg HCH.out (by have := KR.out.lt; have := HG.out; omega))
        have HDF : Hid (dropUp xs (fun x => x.tag == tag) k = xs.map (dropL (fun x => x.tag == tag))) := Lib.hid (by rw [HN.out]; exact dropUp_full _ _)
        obtain ⟨r0, r1⟩ := HKR.out.c2
        have rfz := HKR.out.frozen
        have jr := HKR.out.lt
        have hwr : w.heap.size ≤ gc + 1 := by have := HG.out; omega
        have hnr : gc + 1 ≠ g := by have := KR.out.lt; have := HG.out; omega
        have hnr' : g ≠ gc + 1 := fun e => hnr e.symm
        have hwg : w.heap.size ≤ g := by have := E0.out.size; omega
        have HLE : Hid ((k - (xs.map (dropL (fun x => x.tag == tag))).length) * sz LineD ≤ rest.length) := Lib.hid (by rw [List.length_map, ← HN.out, Nat.sub_self, Nat.zero_mul]; exact Nat.zero_le _)
        have HLL : Hid ((xs.map (dropL (fun x => x.tag == tag))).length ≤ k) := Lib.hid (by rw [List.length_map, ← HN.out]; exact Nat.le_refl _)
        have H9 : Hid (Bk 31 ((wr.setCell ⟨gc + 1, 0, none⟩ (.slice (some ⟨g, 0, none⟩) k k)).setCell ⟨gc + 1, 1, none⟩ (.int .i64 hand)) g (xs.map (dropL (fun x => x.tag == tag))) rest) := Lib.hid (by rw [← HDF.out]; exact (HBK.out.far hnr' _).far hnr' _)
        go_wp2
        exact bodyPost_ret (v := .agg #[.slice (some ⟨g, 0, none⟩) k k, .int .i64 hand]) (by simp [results, Try.results42, go_sem, r0, r1]) rfl
          ⟨some ⟨g, 0, none⟩, rfl, Fr.close H9.out hwg HLE.out HLL.out (by simp [maxLen]; omega), (EW.out.set hwr _).set hwr _⟩
end Go.Proofs.Ytcaaficjcghheab
