/- Contracts of the small functions over Line: comparing, copying, counting, marking. Written by a program of mine from one pattern. -/
import Derived.Test.YtkoegcalfibinaaDoorRows
import Derived.Test.YtkoegcalfibinaaDoorData
import Derived.Test.YtkoegcalfibinaaDoorData
namespace Go.Proofs.YtkoegcalfibinaaDoor
open Go.ChangeShapes Go.WideShapes Go.ChangeAt Go.RowKit
open Rec (sz cs)
set_option linter.unusedVariables false
set_option maxRecDepth 100000

set_option maxHeartbeats 1000000 in
theorem eqLine_c (x y : LineD) (w : World) : Calls Tryd.prog 122 #[.agg #[.bool x.valid, .int .i64 x.tag, .int .i64 x.page, .int .i64 x.frame, .int .i64 x.rights, .bool x.wired], .agg #[.bool y.valid, .int .i64 y.tag, .int .i64 y.page, .int .i64 y.frame, .int .i64 y.rights, .bool y.wired]] w
   fun r w' => r = .returned (.bool (eqB x y)) ∧ Ex w w' := by
  obtain ⟨a1, b1, c1, d1, e1, f1⟩ := x
  obtain ⟨a2, b2, c2, d2, e2, f2⟩ := y
  go_enter Tryd.func122, Tryd.ntmps122
  go_wp2
  all_goals
    go_ret
    refine ⟨ret_bool ?_, ((Ex.refl _).alloc _).alloc _⟩
    simp only [eqB]; simp_all

theorem fieldsLine : Tryd.prog.underlying 101 = some (.struct (Tryd.prog.fieldsOf 101)) := by kernel_rfl
theorem heldLine_ : Tryd.prog.stoodInHeld 101 = false := by kernel_rfl
theorem guardLine : Tryd.prog.eqGuardType Tryd.prog.depth 101 = false := by kernel_rfl
theorem eqIn_line (x y : LineD) (w : World) : (Op.equalIn 10000 101 (.agg #[.bool x.valid, .int .i64 x.tag, .int .i64 x.page, .int .i64 x.frame, .int .i64 x.rights, .bool x.wired]) (.agg #[.bool y.valid, .int .i64 y.tag, .int .i64 y.page, .int .i64 y.frame, .int .i64 y.rights, .bool y.wired])).run Tryd.prog w = .ok (eqB x y) w := by
  obtain ⟨a1, b1, c1, d1, e1, f1⟩ := x
  obtain ⟨a2, b2, c2, d2, e2, f2⟩ := y
  rw [run_equalIn_agg w 9999 _ _ _ fieldsLine heldLine_]
  simp [go_sem, Tryd.underlying101]
  by_cases k0 : a1 = a2 <;> by_cases k1 : b1 = b2 <;> by_cases k2 : c1 = c2 <;> by_cases k3 : d1 = d2 <;> by_cases k4 : e1 = e2 <;> by_cases k5 : f1 = f2 <;> simp [eqB, *]
theorem neq_line (x y : LineD) (w : World) : (binOp .neq 101 (.agg #[.bool x.valid, .int .i64 x.tag, .int .i64 x.page, .int .i64 x.frame, .int .i64 x.rights, .bool x.wired]) (.agg #[.bool y.valid, .int .i64 y.tag, .int .i64 y.page, .int .i64 y.frame, .int .i64 y.rights, .bool y.wired])).run Tryd.prog w = .ok (.bool (!eqB x y)) w := by
  rw [run_neq_struct, eqIn_line]; rfl
theorem eql_line (x y : LineD) (w : World) : (binOp .eql 101 (.agg #[.bool x.valid, .int .i64 x.tag, .int .i64 x.page, .int .i64 x.frame, .int .i64 x.rights, .bool x.wired]) (.agg #[.bool y.valid, .int .i64 y.tag, .int .i64 y.page, .int .i64 y.frame, .int .i64 y.rights, .bool y.wired])).run Tryd.prog w = .ok (.bool (eqB x y)) w := by
  rw [run_eql_struct, eqIn_line]; rfl

set_option maxHeartbeats 1000000 in
theorem eqLineS_c (A B : Option Addr) (c d : Nat) (xs ys : List LineD) (w : World) (hx : Rd w A xs) (hy : Rd w B ys) (hn : xs.length ≤ 1048576) (hm : ys.length ≤ 1048576) :
   Calls Tryd.prog 89 #[.slice A xs.length c, .slice B ys.length d] w
   fun r w' => r = .returned (.bool (eqB xs ys)) ∧ Ex w w' := by
  by_cases hl : xs.length = ys.length
  · obtain ⟨n, hn1⟩ : ∃ n, n = xs.length := ⟨_, rfl⟩
    obtain ⟨m, hm1⟩ : ∃ m, m = ys.length := ⟨_, rfl⟩
    rw [← hn1, ← hm1]
    obtain rfl : n = m := by omega
    have hn' : n ≤ 1048576 := by omega
    have HX := Lib.hid hn1
    have HY := Lib.hid hm1
    have H1 := Lib.hid hx
    have H2 := Lib.hid hy
    clear hn hm hn1 hm1 hx hy hl
    go_enter Tryd.func89, Tryd.ntmps89
    go_wp2
    go_loopw [5] (fun i wr => ∃ k : Nat, k ≤ n ∧ i = .int .i64 k ∧ Ex w wr ∧ xs.take k = ys.take k) (fun i _ => n - (intOf i).toNat)
    case atStart => exact ⟨0, Nat.zero_le _, rfl, Ex.refl _, rfl⟩
    case round =>
      obtain ⟨k, hk, rfl, hbel, htk⟩ := hrel
      have HT := Lib.hid htk
      clear htk
      by_cases hlt : k < n
      · obtain ⟨b1, o1, x, rfl, hb1, hxk, h0, h1, h2, h3, h4, h5⟩ := Rd.line (H1.out.ex hbel) (k := k) (by have := HX.out; omega)
        obtain ⟨b2, o2, y, rfl, hb2, hyk, g0, g1, g2, g3, g4, g5⟩ := Rd.line (H2.out.ex hbel) (k := k) (by have := HY.out; omega)
        have HXK := Lib.hid hxk
        have HYK := Lib.hid hyk
        clear hxk hyk
        cases hxy : eqB x y
        · have hne : x ≠ y := eqB_false.1 hxy
          go_wp2_with fail
          go_still_tail 8, (by kernel_rfl)
          change wpList _ _ _ _ _ wr.drew
          go_wp2_with (go_at_call 122; go_must (refine (eqLine_c x y _).mono ?_); rintro r w' ⟨rfl, hb⟩)
          go_ret
          exact ⟨ret_bool (by rw [eq_comm, eqB_false]; exact ne_of_elem HXK.out HYK.out hne), (hbel.drew).trans hb⟩
        · have hxye := eqB_true.1 hxy
          have HE := Lib.hid hxye
          clear hxye
          go_wp2_with fail
          go_still_tail 8, (by kernel_rfl)
          change wpList _ _ _ _ _ wr.drew
          go_wp2_with (go_at_call 122; go_must (refine (eqLine_c x y _).mono ?_); rintro r w' ⟨rfl, hb⟩)
          go_roundw
          case rel => exact ⟨k + 1, by omega, by go_num, (hbel.drew).trans hb, (take_eq_step HXK.out HYK.out).2 ⟨HT.out, HE.out⟩⟩
          case measure => simp [intOf]; omega
      · go_wp2
        go_ret
        exact ⟨ret_bool (by rw [eq_comm, eqB_true]; exact eq_of_take HX.out.symm HY.out.symm (by rw [show n = k from by omega]; exact HT.out)), hbel⟩
  · have hne : ((xs.length : Int) != (ys.length : Int)) = true := by simp; omega
    go_enter Tryd.func89, Tryd.ntmps89
    go_wp2
    go_ret
    exact ⟨ret_bool (by rw [eq_comm, eqB_false]; intro h; exact hl (by rw [h])), Ex.refl _⟩

set_option maxHeartbeats 400000 in
theorem szLineS_c (A : Option Addr) (n c : Nat) (l : Int) (w : World) (h0 : 0 ≤ l) (h1 : l ≤ 1048576) (hn : n ≤ maxLen) :
    Calls Tryd.prog 97 #[.slice A n c, .int .i64 l] w fun r w' => r = .returned (.int .i64 (szI l n)) ∧ w = w' := by
  unfold maxLen at hn
  by_cases hlt : l < n
  · have hd : l - n < 0 := by omega
    have HF := Lib.hid (szI_neg hlt)
    go_enter Tryd.func97, Tryd.ntmps97
    go_wp2
    go_ret
    exact ⟨ret_int HF.out.symm, rfl⟩
  · have hd : ¬ l - n < 0 := by omega
    have HF := Lib.hid (szI_pos hlt)
    go_enter Tryd.func97, Tryd.ntmps97
    go_wp2
    go_ret
    exact ⟨ret_int HF.out.symm, rfl⟩

set_option maxHeartbeats 1000000 in
theorem toLine_c (x : LineD) (w : World) :
    Calls Tryd.prog 128 #[.agg #[.bool x.valid, .int .i64 x.tag, .int .i64 x.page, .int .i64 x.frame, .int .i64 x.rights, .bool x.wired]] w fun r w' => r = .returned (.agg #[.bool x.valid, .int .i64 x.tag, .int .i64 x.page, .int .i64 x.frame, .int .i64 x.rights, .bool x.wired]) ∧ Ex w w' := by
  obtain ⟨a1, b1, c1, d1, e1, f1⟩ := x
  go_enter Tryd.func128, Tryd.ntmps128
  go_wp2
  exact bodyPost_ret (v := .agg #[.bool a1, .int .i64 b1, .int .i64 c1, .int .i64 d1, .int .i64 e1, .bool f1]) (by simp [results, Tryd.results128, go_sem]) rfl ⟨rfl, (((Ex.refl _).alloc _).alloc _).alloc _⟩

theorem infoLine : (Tryd.prog.info? 101).map (fun i => (i.zero, i.size, i.bytes)) = some (some (.agg #[.bool false, .int .i64 0, .int .i64 0, .int .i64 0, .int .i64 0, .bool false]), 6, 48) := by kernel_rfl

set_option maxHeartbeats 1000000 in
theorem toLineS_c (A : Option Addr) (c : Nat) (xs : List LineD) (w : World) (hx : Rd w A xs) (hn : xs.length ≤ 1048576) :
    Calls Tryd.prog 108 #[.slice A xs.length c] w
    fun r w' => ∃ A' c', r = .returned (.slice A' xs.length c') ∧ Fr 101 w' w.heap.size A' c' xs ∧ Ex w w' := by
  obtain ⟨n, hn1⟩ : ∃ n, n = xs.length := ⟨_, rfl⟩
  rw [← hn1]
  have hn' : n ≤ 1048576 := by omega
  have hmk := make_rec (P := Tryd.prog) (α := LineD) 34 101 48 ⟨false, 0, 0, 0, 0, false⟩ _ Tryd.underlying34 infoLine rfl n (by omega) (by omega)
  have HX := Lib.hid hn1
  have H1 := Lib.hid hx
  clear hn hn1 hx
  go_enter Tryd.func108, Tryd.ntmps108
  go_wp2
  clear hmk
  go_loopw [4] (fun i wr => ∃ (k : Nat) (zs : List LineD), k ≤ n ∧ i = .int .i64 k ∧ Ex w wr ∧ zs.length = n ∧ zs.take k = xs.take k ∧ Bk 101 wr w.heap.size zs []) (fun i _ => n - (intOf i).toNat)
  case atStart => exact ⟨0, List.replicate n ⟨false, 0, 0, 0, 0, false⟩, Nat.zero_le _, rfl, (Ex.refl _).alloc _, List.length_replicate, rfl, Bk.new _ _ _⟩
  case round =>
    obtain ⟨k, zs, hk, rfl, hbel, hzs, htk, hB⟩ := hrel
    have HT := Lib.hid htk
    have HZ := Lib.hid hzs
    have HB := Lib.hid hB
    clear htk hzs hB
    by_cases hlt : k < n
    · obtain ⟨b1, o1, x, rfl, hb1, hxk, h0, h1, h2, h3, h4, h5⟩ := Rd.line (H1.out.ex hbel) (k := k) (by have := HX.out; omega)
      obtain ⟨z, hzk⟩ : ∃ z, zs[k]? = some z := ⟨_, List.getElem?_eq_getElem (by have := HZ.out; omega)⟩
      have HXK := Lib.hid hxk
      have HZK := Lib.hid hzk
      clear hxk hzk
      go_wp2_with (go_at_call 128; go_must (refine (toLine_c x _).mono ?_); rintro r w2 ⟨rfl, hb⟩; have hB2 := Lib.hid (HB.out.ex hb); obtain ⟨hc0, hc1, hc2, hc3, hc4, hc5⟩ := (HB.out.ex hb).line HZK.out; have hfz := Bk.frozen (HB.out.ex hb))
      go_roundw
      case rel => exact ⟨k + 1, zs.set k x, by omega, by go_num, (((((((hbel.trans hb).set (Nat.le_refl _) _).set (Nat.le_refl _) _).set (Nat.le_refl _) _).set (Nat.le_refl _) _).set (Nat.le_refl _) _).set (Nat.le_refl _) _), by rw [List.length_set]; exact HZ.out, (by rw [List.take_succ_eq_append_getElem (by rw [List.length_set]; have := HZ.out; omega), List.getElem_set_self, List.take_set_of_le (Nat.le_refl _), HT.out, take_succ_of HXK.out]), hB2.out.set_line x (by have := HZ.out; omega)⟩
      case measure => simp [intOf]; omega
    · go_wp2
      go_ret
      have e : zs = xs := eq_of_take HZ.out HX.out.symm (by rw [show n = k from by omega]; exact HT.out)
      subst e
      exact ⟨_, _, rfl, ⟨by have := HX.out; omega, by simp only [maxLen]; omega, .inr ⟨_, [], rfl, Nat.le_refl _, HB.out, by rw [HX.out, Nat.sub_self, Nat.zero_mul]; exact Nat.zero_le _⟩⟩, hbel⟩

def mkLine (k : Int) : LineD := ⟨(k) % 3 == 0, k + 1, k + 1 + 1, k + 1 + 1 + 1, k + 1 + 1 + 1 + 1, (k + 1 + 1 + 1 + 1 + 1) % 3 == 0⟩

set_option maxHeartbeats 1000000 in
theorem markLineS_c (A : Option Addr) (B c : Nat) (xs : List LineD) (k0 : Int) (w : World) (hx : Fr 101 w B A c xs) (hn : xs.length ≤ 1048576) (hk0 : 0 ≤ k0) (hk1 : k0 ≤ 1000000000) :
    Calls Tryd.prog 91 #[.slice A xs.length c, .int .i64 k0] w
    fun r w' => r = .returned (.int .i64 (k0 + 6 * xs.length)) ∧ Fr 101 w' B A c (markL mkLine 6 k0 xs.length) ∧ w.grownBy w' (rowOf A c) := by
  obtain ⟨n, hn1⟩ : ∃ n, n = xs.length := ⟨_, rfl⟩
  rw [← hn1]
  have hn' : n ≤ 1048576 := by omega
  have HX := Lib.hid hn1
  have H1 := Lib.hid hx
  clear hn hn1 hx
  go_enter Tryd.func91, Tryd.ntmps91
  go_wp2
  go_loopw [1, 5] (fun q i wr => ∃ (k : Nat) (zs : List LineD), k ≤ n ∧ i = .int .i64 k ∧ q = .int .i64 (k0 + 6 * k) ∧ w.grownBy wr (rowOf A c) ∧ zs.length = n ∧ zs.take k = markL mkLine 6 k0 k ∧ Fr 101 wr B A c zs) (fun _ i _ => n - (intOf i).toNat)
  case atStart => exact ⟨0, xs, Nat.zero_le _, rfl, by go_num, grown_refl _ _, HX.out.symm, rfl, H1.out⟩
  case round =>
    obtain ⟨k, zs, hk, rfl, rfl, hgr, hzs, htk, hF⟩ := hrel
    have HG := Lib.hid hgr
    have HZ := Lib.hid hzs
    have HT := Lib.hid htk
    have HF := Lib.hid hF
    clear hgr hzs htk hF
    by_cases hlt : k < n
    · obtain ⟨g, rest, hA, hB, hb, hr⟩ := HF.out.open_ (k := k) (by have := HZ.out; omega)
      subst hA
      obtain ⟨z, hzk⟩ : ∃ z, zs[k]? = some z := ⟨_, List.getElem?_eq_getElem (by have := HZ.out; omega)⟩
      have HZK := Lib.hid hzk
      have HB := Lib.hid hb
      have HR := Lib.hid hr
      obtain ⟨hc0, hc1, hc2, hc3, hc4, hc5⟩ := hb.line hzk
      have hfz := hb.frozen
      have hcp : 0 < c := by have := HF.out.le; have := HZ.out; omega
      replace HG := Lib.hid (rowOf_some hcp ▸ HG.out)
      clear hzk hb hr
      have hp0 : 0 ≤ k0 + 6 * (k : Int) := by omega
      have hp1 : k0 + 6 * (k : Int) ≤ 1010000000 := by omega
      obtain ⟨q, hq⟩ : ∃ q : Int, q = k0 + 6 * (k : Int) := ⟨_, rfl⟩
      rw [← hq] at hp0 hp1 ⊢
      have HQ := Lib.hid hq
      clear hq
      go_wp2
      go_roundw
      case rel =>
        refine ⟨k + 1, zs.set k (mkLine q), by omega, by go_num, by (have := HQ.out; first | go_num | (congr 1; omega)), by rw [rowOf_some hcp]; exact (grown_set (grown_set (grown_set (grown_set (grown_set (grown_set HG.out _ _) _ _) _ _) _ _) _ _) _ _), by rw [List.length_set]; exact HZ.out, by rw [take_set_succ _ HZ.out hlt, markL_succ, HT.out, HQ.out], ?_⟩
        exact Fr.close (HB.out.set_line (mkLine q) (by have := HZ.out; omega)) hB (by rw [List.length_set]; exact HR.out) (by rw [List.length_set]; exact HF.out.le) HF.out.cap
      case measure => simp [intOf]; omega
    · obtain rfl : k = n := by omega
      go_wp2
      go_ret
      have e : zs = markL mkLine 6 k0 k := by rw [← HT.out, List.take_of_length_le (by have := HZ.out; omega)]
      exact ⟨rfl, e ▸ HF.out, HG.out⟩

set_option maxHeartbeats 1000000 in
theorem heldLineS_c (A : Option Addr) (c n : Nat) (k0 : Int) (w : World) (hx : Rd w A (markL mkLine 6 k0 n)) (hn : n ≤ 1048576) (hk0 : 0 ≤ k0) (hk1 : k0 ≤ 1000000000) :
    Calls Tryd.prog 93 #[.slice A n c, .int .i64 k0] w
    fun r w' => r = .returned (.int .i64 (k0 + 6 * n)) ∧ w = w' := by
  have H1 := Lib.hid hx
  clear hx
  go_enter Tryd.func93, Tryd.ntmps93
  go_wp2
  go_loop [1, 5] (fun q i => ∃ (k : Nat), k ≤ n ∧ i = .int .i64 k ∧ q = .int .i64 (k0 + 6 * k)) (fun _ i => n - (intOf i).toNat)
  case atStart => exact ⟨0, Nat.zero_le _, rfl, by go_num⟩
  case round =>
    obtain ⟨k, hk, rfl, rfl⟩ := hrel
    by_cases hlt : k < n
    · obtain ⟨b1, o1, x, rfl, hb1, hxk, h0, h1, h2, h3, h4, h5⟩ := Rd.line H1.out (k := k) (by rw [markL_length]; exact hlt)
      rw [markL_get _ _ _ hlt] at hxk
      injection hxk with hxk
      subst hxk
      have hp0 : 0 ≤ k0 + 6 * (k : Int) := by omega
      have hp1 : k0 + 6 * (k : Int) ≤ 1010000000 := by omega
      obtain ⟨q, hq⟩ : ∃ q : Int, q = k0 + 6 * (k : Int) := ⟨_, rfl⟩
      rw [← hq] at hp0 hp1 h0 h1 h2 h3 h4 h5 ⊢
      have HQ := Lib.hid hq
      clear hq
      simp only [mkLine] at h0 h1 h2 h3 h4 h5
      go_wp2
      go_round
      case rel => exact ⟨k + 1, by omega, by go_num, by (have := HQ.out; first | go_num | (congr 1; omega))⟩
      case measure => simp [intOf]; omega
    · obtain rfl : k = n := by omega
      go_wp2
      go_ret
      exact ⟨rfl, rfl⟩
end Go.Proofs.YtkoegcalfibinaaDoor
