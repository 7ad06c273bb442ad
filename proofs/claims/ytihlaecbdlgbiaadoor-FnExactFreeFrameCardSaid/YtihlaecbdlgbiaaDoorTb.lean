/- Contracts: copying the plain data of a law into the program's, counting, marking. -/
import Derived.Test.YtihlaecbdlgbiaaDoorTa
namespace Go.Proofs.YtihlaecbdlgbiaaDoor
open Go.ChangeShapes Go.WideShapes Go.ChangeAt Go.RowKit
open Rec (sz cs)
set_option linter.unusedVariables false
set_option maxRecDepth 100000


set_option maxHeartbeats 400000 in
theorem szOwnS_c (A : Option Addr) (n c : Nat) (l : Int) (w : World) (h0 : 0 ≤ l) (h1 : l ≤ 1048576) (hn : n ≤ maxLen) :
    Calls Tryd.prog 47 #[.slice A n c, .int .i64 l] w fun r w' => r = .returned (.int .i64 (szI l n)) ∧ w = w' := by
  unfold maxLen at hn
  by_cases hlt : l < n
  · have hd : l - n < 0 := by omega
    have HF := Lib.hid (szI_neg hlt)
    go_enter Tryd.func47, Tryd.ntmps47
    go_wp2
    go_ret
    exact ⟨ret_int HF.out.symm, rfl⟩
  · have hd : ¬ l - n < 0 := by omega
    have HF := Lib.hid (szI_pos hlt)
    go_enter Tryd.func47, Tryd.ntmps47
    go_wp2
    go_ret
    exact ⟨ret_int HF.out.symm, rfl⟩

set_option maxHeartbeats 400000 in
theorem toOwn_c (x : OwnD) (w : World) :
    Calls Tryd.prog 80 #[.agg #[.int .i64 x.space, .int .i64 x.tag]] w fun r w' => r = .returned (.agg #[.int .i64 x.space, .int .i64 x.tag]) ∧ Ex w w' := by
  obtain ⟨a, b⟩ := x
  go_enter Tryd.func80, Tryd.ntmps80
  go_wp2
  exact bodyPost_ret (v := .agg #[.int .i64 a, .int .i64 b]) (by simp [results, Tryd.results80, go_sem]) rfl ⟨rfl, (((Ex.refl _).alloc _).alloc _).alloc _⟩

theorem infoOwn : (Tryd.prog.info? 102).map (fun i => (i.zero, i.size, i.bytes)) = some (some (.agg #[.int .i64 0, .int .i64 0]), 2, 16) := by kernel_rfl

set_option maxHeartbeats 400000 in
theorem toOwnS_c (A : Option Addr) (c : Nat) (xs : List OwnD) (w : World) (hx : Rd w A xs) (hn : xs.length ≤ 1048576) :
    Calls Tryd.prog 60 #[.slice A xs.length c] w
    fun r w' => ∃ A' c', r = .returned (.slice A' xs.length c') ∧ Fr 102 w' w.heap.size A' c' xs ∧ Ex w w' := by
  obtain ⟨n, hn1⟩ : ∃ n, n = xs.length := ⟨_, rfl⟩
  rw [← hn1]
  have hn' : n ≤ 1048576 := by omega
  have hmk := make_rec (P := Tryd.prog) (α := OwnD) 42 102 16 ⟨0, 0⟩ _ Tryd.underlying42 infoOwn rfl n (by omega) (by omega)
  have HX := Lib.hid hn1
  have H1 := Lib.hid hx
  clear hn hn1 hx
  go_enter Tryd.func60, Tryd.ntmps60
  go_wp2
  clear hmk
  go_loopw [4] (fun i wr => ∃ (k : Nat) (zs : List OwnD), k ≤ n ∧ i = .int .i64 k ∧ Ex w wr ∧ zs.length = n ∧ zs.take k = xs.take k ∧ Bk 102 wr w.heap.size zs []) (fun i _ => n - (intOf i).toNat)
  case atStart => exact ⟨0, List.replicate n ⟨0, 0⟩, Nat.zero_le _, rfl, (Ex.refl _).alloc _, List.length_replicate, rfl, Bk.new _ _ _⟩
  case round =>
    obtain ⟨k, zs, hk, rfl, hbel, hzs, htk, hB⟩ := hrel
    have HT := Lib.hid htk
    have HZ := Lib.hid hzs
    have HB := Lib.hid hB
    clear htk hzs hB
    by_cases hlt : k < n
    · obtain ⟨b1, o1, x, rfl, hb1, hxk, h1, h2⟩ := Rd.own (H1.out.ex hbel) (k := k) (by have := HX.out; omega)
      obtain ⟨z, hzk⟩ : ∃ z, zs[k]? = some z := ⟨_, List.getElem?_eq_getElem (by have := HZ.out; omega)⟩
      have HXK := Lib.hid hxk
      have HZK := Lib.hid hzk
      clear hxk hzk
      go_wp2_with (go_at_call 80; go_must (refine (toOwn_c x _).mono ?_); rintro r w2 ⟨rfl, hb⟩; have hB2 := Lib.hid (HB.out.ex hb); obtain ⟨hc0, hc1⟩ := (HB.out.ex hb).own HZK.out; have hfz := Bk.frozen (HB.out.ex hb))
      go_roundw
      case rel => exact ⟨k + 1, zs.set k x, by omega, by go_num, ((hbel.trans hb).set (Nat.le_refl _) _).set (Nat.le_refl _) _, by rw [List.length_set]; exact HZ.out, (by rw [List.take_succ_eq_append_getElem (by rw [List.length_set]; have := HZ.out; omega), List.getElem_set_self, List.take_set_of_le (Nat.le_refl _), HT.out, take_succ_of HXK.out]), hB2.out.set_own x (by have := HZ.out; omega)⟩
      case measure => simp [intOf]; omega
    · go_wp2
      go_ret
      have e : zs = xs := eq_of_take HZ.out HX.out.symm (by rw [show n = k from by omega]; exact HT.out)
      subst e
      exact ⟨_, _, rfl, ⟨by have := HX.out; omega, by simp only [maxLen]; omega, .inr ⟨_, [], rfl, Nat.le_refl _, HB.out, by rw [HX.out, Nat.sub_self, Nat.zero_mul]; exact Nat.zero_le _⟩⟩, hbel⟩

def mkOwn (k : Int) : OwnD := ⟨k, k + 1⟩

end Go.Proofs.YtihlaecbdlgbiaaDoor
