/- Contracts of the small functions over Int: comparing, copying, counting, marking. Written by a program of mine from one pattern. -/
import Derived.Test.YtkoegcalfibinaaDoorChg
import Derived.Test.YtkoegcalfibinaaDoorRows
namespace Go.Proofs.YtkoegcalfibinaaDoor
open Go.ChangeShapes Go.WideShapes Go.ChangeAt Go.RowKit
open Rec (sz cs)
set_option linter.unusedVariables false
set_option maxRecDepth 100000

set_option maxHeartbeats 1000000 in
theorem eqIntS_self_c (A B : Option Addr) (c d : Nat) (xs : List Int) (w : World) (hx : Rd w A xs) (hy : Rd w B xs) (hn : xs.length ≤ 1048576) :
   Calls Tryd.prog 76 #[.slice A xs.length c, .slice B xs.length d] w
   fun r w' => r = .returned (.bool true) ∧ Ex w w' := by
  obtain ⟨n, hn1⟩ : ∃ n, n = xs.length := ⟨_, rfl⟩
  rw [← hn1]
  have hn' : n ≤ 1048576 := by omega
  have HX := Lib.hid hn1
  have H1 := Lib.hid hx
  have H2 := Lib.hid hy
  clear hn hn1 hx hy
  go_enter Tryd.func76, Tryd.ntmps76
  go_wp2
  go_loopw [5] (fun i wr => ∃ k : Nat, k ≤ n ∧ i = .int .i64 k ∧ Ex w wr) (fun i _ => n - (intOf i).toNat)
  case atStart => exact ⟨0, Nat.zero_le _, rfl, Ex.refl _⟩
  case round =>
    obtain ⟨k, hk, rfl, hbel⟩ := hrel
    have HB := Lib.hid hbel
    clear hbel
    by_cases hlt : k < n
    · obtain ⟨b1, o1, x, rfl, hb1, hxk, h0⟩ := Rd.int (H1.out.ex HB.out) (k := k) (by have := HX.out; omega)
      obtain ⟨b2, o2, y, rfl, hb2, hyk, g0⟩ := Rd.int (H2.out.ex HB.out) (k := k) (by have := HX.out; omega)
      have e : y = x := by rw [hxk] at hyk; injection hyk with e; exact e.symm
      subst e
      have hne : (y != y) = false := by simp
      clear hxk hyk
      go_wp2_with fail
      go_quiet (fail)
      go_wp2
      go_roundw
      case rel => exact ⟨k + 1, by omega, by go_num, HB.out.drewN _⟩
      case measure => simp [intOf]; omega
    · go_wp2
      go_ret
      exact ⟨rfl, HB.out⟩

set_option maxHeartbeats 400000 in
theorem szIntS_c (A : Option Addr) (n c : Nat) (l : Int) (w : World) (h0 : 0 ≤ l) (h1 : l ≤ 1048576) (hn : n ≤ maxLen) :
    Calls Tryd.prog 95 #[.slice A n c, .int .i64 l] w fun r w' => r = .returned (.int .i64 (szI l n)) ∧ w = w' := by
  unfold maxLen at hn
  by_cases hlt : l < n
  · have hd : l - n < 0 := by omega
    have HF := Lib.hid (szI_neg hlt)
    go_enter Tryd.func95, Tryd.ntmps95
    go_wp2
    go_ret
    exact ⟨ret_int HF.out.symm, rfl⟩
  · have hd : ¬ l - n < 0 := by omega
    have HF := Lib.hid (szI_pos hlt)
    go_enter Tryd.func95, Tryd.ntmps95
    go_wp2
    go_ret
    exact ⟨ret_int HF.out.symm, rfl⟩

theorem infoMInt : (Tryd.prog.info? 3).map (fun i => (i.zero, i.size, i.bytes)) = some (some (.int .i64 0), 1, 8) := by kernel_rfl

set_option maxHeartbeats 1000000 in
theorem toIntS_c (A : Option Addr) (c : Nat) (xs : List Int) (w : World) (hx : Rd w A xs) (hn : xs.length ≤ 1048576) :
    Calls Tryd.prog 106 #[.slice A xs.length c] w
    fun r w' => ∃ A' c', r = .returned (.slice A' xs.length c') ∧ Fr 3 w' w.heap.size A' c' xs ∧ Ex w w' := by
  obtain ⟨n, hn1⟩ : ∃ n, n = xs.length := ⟨_, rfl⟩
  rw [← hn1]
  have hn' : n ≤ 1048576 := by omega
  have hmk := make_rec (P := Tryd.prog) (α := Int) 22 3 8 0 _ Tryd.underlying22 infoMInt rfl n (by omega) (by omega)
  have HX := Lib.hid hn1
  have H1 := Lib.hid hx
  clear hn hn1 hx
  go_enter Tryd.func106, Tryd.ntmps106
  go_wp2
  clear hmk
  go_loopw [4] (fun i wr => ∃ (k : Nat) (zs : List Int), k ≤ n ∧ i = .int .i64 k ∧ Ex w wr ∧ zs.length = n ∧ zs.take k = xs.take k ∧ Bk 3 wr w.heap.size zs []) (fun i _ => n - (intOf i).toNat)
  case atStart => exact ⟨0, List.replicate n 0, Nat.zero_le _, rfl, (Ex.refl _).alloc _, List.length_replicate, rfl, Bk.new _ _ _⟩
  case round =>
    obtain ⟨k, zs, hk, rfl, hbel, hzs, htk, hB⟩ := hrel
    have HT := Lib.hid htk
    have HZ := Lib.hid hzs
    have HB := Lib.hid hB
    clear htk hzs hB
    by_cases hlt : k < n
    · obtain ⟨b1, o1, x, rfl, hb1, hxk, h0⟩ := Rd.int (H1.out.ex hbel) (k := k) (by have := HX.out; omega)
      obtain ⟨z, hzk⟩ : ∃ z, zs[k]? = some z := ⟨_, List.getElem?_eq_getElem (by have := HZ.out; omega)⟩
      have HXK := Lib.hid hxk
      have HZK := Lib.hid hzk
      have hc0 := HB.out.int hzk
      have hfz := Bk.frozen HB.out
      have lgB := Blk.lt HB.out
      clear hxk hzk
      go_wp2
      go_roundw
      case rel => exact ⟨k + 1, zs.set k x, by omega, by go_num, hbel.set (Nat.le_refl _) _, by rw [List.length_set]; exact HZ.out, (by rw [take_set_succ _ HZ.out hlt, take_succ_of HXK.out, HT.out]), HB.out.set_int x (by have := HZ.out; omega)⟩
      case measure => simp [intOf]; omega
    · go_wp2
      go_ret
      have e : zs = xs := eq_of_take HZ.out HX.out.symm (by rw [show n = k from by omega]; exact HT.out)
      subst e
      exact ⟨_, _, rfl, ⟨by have := HX.out; omega, by simp only [maxLen]; omega, .inr ⟨_, [], rfl, Nat.le_refl _, HB.out, by rw [HX.out, Nat.sub_self, Nat.zero_mul]; exact Nat.zero_le _⟩⟩, hbel⟩

def mkInt (k : Int) : Int := k

set_option maxHeartbeats 1000000 in
theorem markIntS_c (A : Option Addr) (B c : Nat) (xs : List Int) (k0 : Int) (w : World) (hx : Fr 3 w B A c xs) (hn : xs.length ≤ 1048576) (hk0 : 0 ≤ k0) (hk1 : k0 ≤ 1000000000) :
    Calls Tryd.prog 79 #[.slice A xs.length c, .int .i64 k0] w
    fun r w' => r = .returned (.int .i64 (k0 + 1 * xs.length)) ∧ Fr 3 w' B A c (markL mkInt 1 k0 xs.length) ∧ w.grownBy w' (rowOf A c) := by
  obtain ⟨n, hn1⟩ : ∃ n, n = xs.length := ⟨_, rfl⟩
  rw [← hn1]
  have hn' : n ≤ 1048576 := by omega
  have HX := Lib.hid hn1
  have H1 := Lib.hid hx
  clear hn hn1 hx
  go_enter Tryd.func79, Tryd.ntmps79
  go_wp2
  go_loopw [1, 5] (fun q i wr => ∃ (k : Nat) (zs : List Int), k ≤ n ∧ i = .int .i64 k ∧ q = .int .i64 (k0 + 1 * k) ∧ w.grownBy wr (rowOf A c) ∧ zs.length = n ∧ zs.take k = markL mkInt 1 k0 k ∧ Fr 3 wr B A c zs) (fun _ i _ => n - (intOf i).toNat)
  case atStart => exact ⟨0, xs, Nat.zero_le _, rfl, by go_num, grown_refl _ _, HX.out.symm, rfl, H1.out⟩
  case round =>
    obtain ⟨k, zs, hk, rfl, rfl, hgr, hzs, htk, hF⟩ := hrel
    have HG := Lib.hid hgr
    have HZ := Lib.hid hzs
    have HT := Lib.hid htk
    have HF := Lib.hid hF
    clear hgr hzs htk hF
    by_cases hlt : k < n
    · obtain ⟨g, rest, hA, hB, hb, hr⟩ := HF.out.open_ (k := k) (by have := HZ.out; omega)
      subst hA
      obtain ⟨z, hzk⟩ : ∃ z, zs[k]? = some z := ⟨_, List.getElem?_eq_getElem (by have := HZ.out; omega)⟩
      have HZK := Lib.hid hzk
      have HB := Lib.hid hb
      have HR := Lib.hid hr
      have hc0 := hb.int hzk
      have hfz := hb.frozen
      have lgB := Blk.lt hb
      have hcp : 0 < c := by have := HF.out.le; have := HZ.out; omega
      replace HG := Lib.hid (rowOf_some hcp ▸ HG.out)
      clear hzk hb hr
      have hp0 : 0 ≤ k0 + 1 * (k : Int) := by omega
      have hp1 : k0 + 1 * (k : Int) ≤ 1010000000 := by omega
      obtain ⟨q, hq⟩ : ∃ q : Int, q = k0 + 1 * (k : Int) := ⟨_, rfl⟩
      rw [← hq] at hp0 hp1 ⊢
      have HQ := Lib.hid hq
      clear hq
      go_wp2
      go_roundw
      case rel =>
        refine ⟨k + 1, zs.set k (mkInt q), by omega, by go_num, by (have := HQ.out; first | go_num | (congr 1; omega)), by rw [rowOf_some hcp]; exact (grown_set HG.out _ _), by rw [List.length_set]; exact HZ.out, by rw [take_set_succ _ HZ.out hlt, markL_succ, HT.out, HQ.out], ?_⟩
        exact Fr.close (HB.out.set_int (mkInt q) (by have := HZ.out; omega)) hB (by rw [List.length_set]; exact HR.out) (by rw [List.length_set]; exact HF.out.le) HF.out.cap
      case measure => simp [intOf]; omega
    · obtain rfl : k = n := by omega
      go_wp2
      go_ret
      have e : zs = markL mkInt 1 k0 k := by rw [← HT.out, List.take_of_length_le (by have := HZ.out; omega)]
      exact ⟨rfl, e ▸ HF.out, HG.out⟩

set_option maxHeartbeats 1000000 in
theorem heldIntS_c (A : Option Addr) (c n : Nat) (k0 : Int) (w : World) (hx : Rd w A (markL mkInt 1 k0 n)) (hn : n ≤ 1048576) (hk0 : 0 ≤ k0) (hk1 : k0 ≤ 1000000000) :
    Calls Tryd.prog 82 #[.slice A n c, .int .i64 k0] w
    fun r w' => r = .returned (.int .i64 (k0 + 1 * n)) ∧ w = w' := by
  have H1 := Lib.hid hx
  clear hx
  go_enter Tryd.func82, Tryd.ntmps82
  go_wp2
  go_loop [1, 5] (fun q i => ∃ (k : Nat), k ≤ n ∧ i = .int .i64 k ∧ q = .int .i64 (k0 + 1 * k)) (fun _ i => n - (intOf i).toNat)
  case atStart => exact ⟨0, Nat.zero_le _, rfl, by go_num⟩
  case round =>
    obtain ⟨k, hk, rfl, rfl⟩ := hrel
    by_cases hlt : k < n
    · obtain ⟨b1, o1, x, rfl, hb1, hxk, h0⟩ := Rd.int H1.out (k := k) (by rw [markL_length]; exact hlt)
      rw [markL_get _ _ _ hlt] at hxk
      injection hxk with hxk
      subst hxk
      have hp0 : 0 ≤ k0 + 1 * (k : Int) := by omega
      have hp1 : k0 + 1 * (k : Int) ≤ 1010000000 := by omega
      obtain ⟨q, hq⟩ : ∃ q : Int, q = k0 + 1 * (k : Int) := ⟨_, rfl⟩
      rw [← hq] at hp0 hp1 h0 ⊢
      have HQ := Lib.hid hq
      clear hq
      simp only [mkInt] at h0
      go_wp2
      go_round
      case rel => exact ⟨k + 1, by omega, by go_num, by (have := HQ.out; first | go_num | (congr 1; omega))⟩
      case measure => simp [intOf]; omega
    · obtain rfl : k = n := by omega
      go_wp2
      go_ret
      exact ⟨rfl, rfl⟩

end Go.Proofs.YtkoegcalfibinaaDoor
