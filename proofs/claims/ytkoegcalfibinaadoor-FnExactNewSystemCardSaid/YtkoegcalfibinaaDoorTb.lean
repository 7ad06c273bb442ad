/- Contracts: copying the plain data of a law into the program's, counting, marking. -/
import Derived.Test.YtkoegcalfibinaaDoorTa
namespace Go.Proofs.YtkoegcalfibinaaDoor
open Go.ChangeShapes Go.WideShapes Go.ChangeAt Go.RowKit
open Rec (sz cs)
set_option linter.unusedVariables false
set_option maxRecDepth 100000


set_option maxHeartbeats 400000 in
theorem szOwnS_c (A : Option Addr) (n c : Nat) (l : Int) (w : World) (h0 : 0 ≤ l) (h1 : l ≤ 1048576) (hn : n ≤ maxLen) :
    Calls Tryd.prog 98 #[.slice A n c, .int .i64 l] w fun r w' => r = .returned (.int .i64 (szI l n)) ∧ w = w' := by
  unfold maxLen at hn
  by_cases hlt : l < n
  · have hd : l - n < 0 := by omega
    have HF := Lib.hid (szI_neg hlt)
    go_enter Tryd.func98, Tryd.ntmps98
    go_wp2
    go_ret
    exact ⟨ret_int HF.out.symm, rfl⟩
  · have hd : ¬ l - n < 0 := by omega
    have HF := Lib.hid (szI_pos hlt)
    go_enter Tryd.func98, Tryd.ntmps98
    go_wp2
    go_ret
    exact ⟨ret_int HF.out.symm, rfl⟩

set_option maxHeartbeats 400000 in
theorem toOwn_c (x : OwnD) (w : World) :
    Calls Tryd.prog 129 #[.agg #[.int .i64 x.space, .int .i64 x.tag]] w fun r w' => r = .returned (.agg #[.int .i64 x.space, .int .i64 x.tag]) ∧ Ex w w' := by
  obtain ⟨a, b⟩ := x
  go_enter Tryd.func129, Tryd.ntmps129
  go_wp2
  exact bodyPost_ret (v := .agg #[.int .i64 a, .int .i64 b]) (by simp [results, Tryd.results129, go_sem]) rfl ⟨rfl, (((Ex.refl _).alloc _).alloc _).alloc _⟩

theorem infoOwn : (Tryd.prog.info? 129).map (fun i => (i.zero, i.size, i.bytes)) = some (some (.agg #[.int .i64 0, .int .i64 0]), 2, 16) := by kernel_rfl

set_option maxHeartbeats 400000 in
theorem toOwnS_c (A : Option Addr) (c : Nat) (xs : List OwnD) (w : World) (hx : Rd w A xs) (hn : xs.length ≤ 1048576) :
    Calls Tryd.prog 109 #[.slice A xs.length c] w
    fun r w' => ∃ A' c', r = .returned (.slice A' xs.length c') ∧ Fr 129 w' w.heap.size A' c' xs ∧ Ex w w' := by
  obtain ⟨n, hn1⟩ : ∃ n, n = xs.length := ⟨_, rfl⟩
  rw [← hn1]
  have hn' : n ≤ 1048576 := by omega
  have hmk := make_rec (P := Tryd.prog) (α := OwnD) 37 129 16 ⟨0, 0⟩ _ Tryd.underlying37 infoOwn rfl n (by omega) (by omega)
  have HX := Lib.hid hn1
  have H1 := Lib.hid hx
  clear hn hn1 hx
  go_enter Tryd.func109, Tryd.ntmps109
  go_wp2
  clear hmk
  go_loopw [4] (fun i wr => ∃ (k : Nat) (zs : List OwnD), k ≤ n ∧ i = .int .i64 k ∧ Ex w wr ∧ zs.length = n ∧ zs.take k = xs.take k ∧ Bk 129 wr w.heap.size zs []) (fun i _ => n - (intOf i).toNat)
  case atStart => exact ⟨0, List.replicate n ⟨0, 0⟩, Nat.zero_le _, rfl, (Ex.refl _).alloc _, List.length_replicate, rfl, Bk.new _ _ _⟩
  case round =>
    obtain ⟨k, zs, hk, rfl, hbel, hzs, htk, hB⟩ := hrel
    have HT := Lib.hid htk
    have HZ := Lib.hid hzs
    have HB := Lib.hid hB
    clear htk hzs hB
    by_cases hlt : k < n
    · obtain ⟨b1, o1, x, rfl, hb1, hxk, h1, h2⟩ := Rd.own (H1.out.ex hbel) (k := k) (by have := HX.out; omega)
      obtain ⟨z, hzk⟩ : ∃ z, zs[k]? = some z := ⟨_, List.getElem?_eq_getElem (by have := HZ.out; omega)⟩
      have HXK := Lib.hid hxk
      have HZK := Lib.hid hzk
      clear hxk hzk
      go_wp2_with (go_at_call 129; go_must (refine (toOwn_c x _).mono ?_); rintro r w2 ⟨rfl, hb⟩; have hB2 := Lib.hid (HB.out.ex hb); obtain ⟨hc0, hc1⟩ := (HB.out.ex hb).own HZK.out; have hfz := Bk.frozen (HB.out.ex hb))
      go_roundw
      case rel => exact ⟨k + 1, zs.set k x, by omega, by go_num, ((hbel.trans hb).set (Nat.le_refl _) _).set (Nat.le_refl _) _, by rw [List.length_set]; exact HZ.out, (by rw [List.take_succ_eq_append_getElem (by rw [List.length_set]; have := HZ.out; omega), List.getElem_set_self, List.take_set_of_le (Nat.le_refl _), HT.out, take_succ_of HXK.out]), hB2.out.set_own x (by have := HZ.out; omega)⟩
      case measure => simp [intOf]; omega
    · go_wp2
      go_ret
      have e : zs = xs := eq_of_take HZ.out HX.out.symm (by rw [show n = k from by omega]; exact HT.out)
      subst e
      exact ⟨_, _, rfl, ⟨by have := HX.out; omega, by simp only [maxLen]; omega, .inr ⟨_, [], rfl, Nat.le_refl _, HB.out, by rw [HX.out, Nat.sub_self, Nat.zero_mul]; exact Nat.zero_le _⟩⟩, hbel⟩

def mkOwn (k : Int) : OwnD := ⟨k, k + 1⟩

set_option maxHeartbeats 400000 in
theorem markOwnS_c (A : Option Addr) (B c : Nat) (xs : List OwnD) (k0 : Int) (w : World) (hx : Fr 129 w B A c xs) (hn : xs.length ≤ 1048576) (hk0 : 0 ≤ k0) (hk1 : k0 ≤ 1000000000) :
    Calls Tryd.prog 92 #[.slice A xs.length c, .int .i64 k0] w
    fun r w' => r = .returned (.int .i64 (k0 + 2 * xs.length)) ∧ Fr 129 w' B A c (markL mkOwn 2 k0 xs.length) ∧ w.grownBy w' (rowOf A c) := by
  obtain ⟨n, hn1⟩ : ∃ n, n = xs.length := ⟨_, rfl⟩
  rw [← hn1]
  have hn' : n ≤ 1048576 := by omega
  have HX := Lib.hid hn1
  have H1 := Lib.hid hx
  clear hn hn1 hx
  go_enter Tryd.func92, Tryd.ntmps92
  go_wp2
  go_loopw [1, 5] (fun q i wr => ∃ (k : Nat) (zs : List OwnD), k ≤ n ∧ i = .int .i64 k ∧ q = .int .i64 (k0 + 2 * k) ∧ w.grownBy wr (rowOf A c) ∧ zs.length = n ∧ zs.take k = markL mkOwn 2 k0 k ∧ Fr 129 wr B A c zs) (fun _ i _ => n - (intOf i).toNat)
  case atStart => exact ⟨0, xs, Nat.zero_le _, rfl, by go_num, grown_refl _ _, HX.out.symm, rfl, H1.out⟩
  case round =>
    obtain ⟨k, zs, hk, rfl, rfl, hgr, hzs, htk, hF⟩ := hrel
    have HG := Lib.hid hgr
    have HZ := Lib.hid hzs
    have HT := Lib.hid htk
    have HF := Lib.hid hF
    clear hgr hzs htk hF
    by_cases hlt : k < n
    · obtain ⟨g, rest, hA, hB, hb, hr⟩ := HF.out.open_ (k := k) (by have := HZ.out; omega)
      subst hA
      obtain ⟨z, hzk⟩ : ∃ z, zs[k]? = some z := ⟨_, List.getElem?_eq_getElem (by have := HZ.out; omega)⟩
      have HZK := Lib.hid hzk
      have HB := Lib.hid hb
      have HR := Lib.hid hr
      obtain ⟨hc0, hc1⟩ := hb.own hzk
      have hfz := hb.frozen
      have hcp : 0 < c := by have := HF.out.le; have := HZ.out; omega
      replace HG := Lib.hid (rowOf_some hcp ▸ HG.out)
      clear hzk hb hr
      go_wp2
      go_roundw
      case rel =>
        refine ⟨k + 1, zs.set k (mkOwn (k0 + 2 * k)), by omega, by go_num, by go_num, by rw [rowOf_some hcp]; exact grown_set (grown_set HG.out _ _) _ _, by rw [List.length_set]; exact HZ.out, by rw [take_set_succ _ HZ.out hlt, markL_succ, HT.out], ?_⟩
        exact Fr.close (HB.out.set_own (mkOwn (k0 + 2 * k)) (by have := HZ.out; omega)) hB (by rw [List.length_set]; exact HR.out) (by rw [List.length_set]; exact HF.out.le) HF.out.cap
      case measure => simp [intOf]; omega
    · obtain rfl : k = n := by omega
      go_wp2
      go_ret
      have e : zs = markL mkOwn 2 k0 k := by rw [← HT.out, List.take_of_length_le (by have := HZ.out; omega)]
      exact ⟨rfl, e ▸ HF.out, HG.out⟩

set_option maxHeartbeats 400000 in
theorem heldOwnS_c (A : Option Addr) (c n : Nat) (k0 : Int) (w : World) (hx : Rd w A (markL mkOwn 2 k0 n)) (hn : n ≤ 1048576) (hk0 : 0 ≤ k0) (hk1 : k0 ≤ 1000000000) :
    Calls Tryd.prog 94 #[.slice A n c, .int .i64 k0] w
    fun r w' => r = .returned (.int .i64 (k0 + 2 * n)) ∧ w = w' := by
  have H1 := Lib.hid hx
  clear hx
  go_enter Tryd.func94, Tryd.ntmps94
  go_wp2
  go_loop [1, 5] (fun q i => ∃ (k : Nat), k ≤ n ∧ i = .int .i64 k ∧ q = .int .i64 (k0 + 2 * k)) (fun _ i => n - (intOf i).toNat)
  case atStart => exact ⟨0, Nat.zero_le _, rfl, by go_num⟩
  case round =>
    obtain ⟨k, hk, rfl, rfl⟩ := hrel
    by_cases hlt : k < n
    · obtain ⟨b1, o1, x, rfl, hb1, hxk, h1, h2⟩ := Rd.own H1.out (k := k) (by rw [markL_length]; exact hlt)
      rw [markL_get _ _ _ hlt] at hxk
      injection hxk with hxk
      subst hxk
      simp only [mkOwn] at h1 h2
      go_wp2
      go_round
      case rel => exact ⟨k + 1, by omega, by go_num, by go_num⟩
      case measure => simp [intOf]; omega
    · obtain rfl : k = n := by omega
      go_wp2
      go_ret
      exact ⟨rfl, rfl⟩
end Go.Proofs.YtkoegcalfibinaaDoor
