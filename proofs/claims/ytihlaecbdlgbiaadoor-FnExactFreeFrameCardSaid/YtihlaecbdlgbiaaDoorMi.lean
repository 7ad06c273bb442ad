/- Contracts of the small functions over Int: comparing, copying, counting, marking. Written by a program of mine from one pattern. -/
import Derived.Test.YtihlaecbdlgbiaaDoorChg
import Derived.Test.YtihlaecbdlgbiaaDoorRows
namespace Go.Proofs.YtihlaecbdlgbiaaDoor
open Go.ChangeShapes Go.WideShapes Go.ChangeAt Go.RowKit
open Rec (sz cs)
set_option linter.unusedVariables false
set_option maxRecDepth 100000

set_option maxHeartbeats 1000000 in
theorem eqIntS_self_c (A B : Option Addr) (c d : Nat) (xs : List Int) (w : World) (hx : Rd w A xs) (hy : Rd w B xs) (hn : xs.length ≤ 1048576) :
   Calls Tryd.prog 71 #[.slice A xs.length c, .slice B xs.length d] w
   fun r w' => r = .returned (.bool true) ∧ Ex w w' := by
  obtain ⟨n, hn1⟩ : ∃ n, n = xs.length := ⟨_, rfl⟩
  rw [← hn1]
  have hn' : n ≤ 1048576 := by omega
  have HX := Lib.hid hn1
  have H1 := Lib.hid hx
  have H2 := Lib.hid hy
  clear hn hn1 hx hy
  go_enter Tryd.func71, Tryd.ntmps71
  go_wp2
  go_loopw [5] (fun i wr => ∃ k : Nat, k ≤ n ∧ i = .int .i64 k ∧ Ex w wr) (fun i _ => n - (intOf i).toNat)
  case atStart => exact ⟨0, Nat.zero_le _, rfl, Ex.refl _⟩
  case round =>
    obtain ⟨k, hk, rfl, hbel⟩ := hrel
    have HB := Lib.hid hbel
    clear hbel
    by_cases hlt : k < n
    · obtain ⟨b1, o1, x, rfl, hb1, hxk, h0⟩ := Rd.int (H1.out.ex HB.out) (k := k) (by have := HX.out; omega)
      obtain ⟨b2, o2, y, rfl, hb2, hyk, g0⟩ := Rd.int (H2.out.ex HB.out) (k := k) (by have := HX.out; omega)
      have e : y = x := by rw [hxk] at hyk; injection hyk with e; exact e.symm
      subst e
      have hne : (y != y) = false := by simp
      clear hxk hyk
      go_wp2_with fail
      go_quiet (fail)
      go_wp2
      go_roundw
      case rel => exact ⟨k + 1, by omega, by go_num, HB.out.drewN _⟩
      case measure => simp [intOf]; omega
    · go_wp2
      go_ret
      exact ⟨rfl, HB.out⟩

set_option maxHeartbeats 400000 in
theorem szIntS_c (A : Option Addr) (n c : Nat) (l : Int) (w : World) (h0 : 0 ≤ l) (h1 : l ≤ 1048576) (hn : n ≤ maxLen) :
    Calls Tryd.prog 44 #[.slice A n c, .int .i64 l] w fun r w' => r = .returned (.int .i64 (szI l n)) ∧ w = w' := by
  unfold maxLen at hn
  by_cases hlt : l < n
  · have hd : l - n < 0 := by omega
    have HF := Lib.hid (szI_neg hlt)
    go_enter Tryd.func44, Tryd.ntmps44
    go_wp2
    go_ret
    exact ⟨ret_int HF.out.symm, rfl⟩
  · have hd : ¬ l - n < 0 := by omega
    have HF := Lib.hid (szI_pos hlt)
    go_enter Tryd.func44, Tryd.ntmps44
    go_wp2
    go_ret
    exact ⟨ret_int HF.out.symm, rfl⟩

theorem infoMInt : (Tryd.prog.info? 3).map (fun i => (i.zero, i.size, i.bytes)) = some (some (.int .i64 0), 1, 8) := by kernel_rfl

set_option maxHeartbeats 1000000 in
theorem toIntS_c (A : Option Addr) (c : Nat) (xs : List Int) (w : World) (hx : Rd w A xs) (hn : xs.length ≤ 1048576) :
    Calls Tryd.prog 57 #[.slice A xs.length c] w
    fun r w' => ∃ A' c', r = .returned (.slice A' xs.length c') ∧ Fr 3 w' w.heap.size A' c' xs ∧ Ex w w' := by
  obtain ⟨n, hn1⟩ : ∃ n, n = xs.length := ⟨_, rfl⟩
  rw [← hn1]
  have hn' : n ≤ 1048576 := by omega
  have hmk := make_rec (P := Tryd.prog) (α := Int) 22 3 8 0 _ Tryd.underlying22 infoMInt rfl n (by omega) (by omega)
  have HX := Lib.hid hn1
  have H1 := Lib.hid hx
  clear hn hn1 hx
  go_enter Tryd.func57, Tryd.ntmps57
  go_wp2
  clear hmk
  go_loopw [4] (fun i wr => ∃ (k : Nat) (zs : List Int), k ≤ n ∧ i = .int .i64 k ∧ Ex w wr ∧ zs.length = n ∧ zs.take k = xs.take k ∧ Bk 3 wr w.heap.size zs []) (fun i _ => n - (intOf i).toNat)
  case atStart => exact ⟨0, List.replicate n 0, Nat.zero_le _, rfl, (Ex.refl _).alloc _, List.length_replicate, rfl, Bk.new _ _ _⟩
  case round =>
    obtain ⟨k, zs, hk, rfl, hbel, hzs, htk, hB⟩ := hrel
    have HT := Lib.hid htk
    have HZ := Lib.hid hzs
    have HB := Lib.hid hB
    clear htk hzs hB
    by_cases hlt : k < n
    · obtain ⟨b1, o1, x, rfl, hb1, hxk, h0⟩ := Rd.int (H1.out.ex hbel) (k := k) (by have := HX.out; omega)
      obtain ⟨z, hzk⟩ : ∃ z, zs[k]? = some z := ⟨_, List.getElem?_eq_getElem (by have := HZ.out; omega)⟩
      have HXK := Lib.hid hxk
      have HZK := Lib.hid hzk
      have hc0 := HB.out.int hzk
      have hfz := Bk.frozen HB.out
      have lgB := Blk.lt HB.out
      clear hxk hzk
      go_wp2
      go_roundw
      case rel => exact ⟨k + 1, zs.set k x, by omega, by go_num, hbel.set (Nat.le_refl _) _, by rw [List.length_set]; exact HZ.out, (by rw [take_set_succ _ HZ.out hlt, take_succ_of HXK.out, HT.out]), HB.out.set_int x (by have := HZ.out; omega)⟩
      case measure => simp [intOf]; omega
    · go_wp2
      go_ret
      have e : zs = xs := eq_of_take HZ.out HX.out.symm (by rw [show n = k from by omega]; exact HT.out)
      subst e
      exact ⟨_, _, rfl, ⟨by have := HX.out; omega, by simp only [maxLen]; omega, .inr ⟨_, [], rfl, Nat.le_refl _, HB.out, by rw [HX.out, Nat.sub_self, Nat.zero_mul]; exact Nat.zero_le _⟩⟩, hbel⟩

def mkInt (k : Int) : Int := k

end Go.Proofs.YtihlaecbdlgbiaaDoor
