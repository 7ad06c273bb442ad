/- Drawn tags: l5Spaces. -/
import Derived.Test.YtidnefcnojedoaaRe
import Derived.Test.YtidnefcnojedoaaAp
namespace Go.Proofs.Ytidnefcnojedoaa
open Go.ChangeShapes Go.WideShapes Go.ChangeAt Go.RowKit
open Rec (sz cs)
set_option linter.unusedVariables false
set_option maxRecDepth 100000

theorem infoInt : (Try.prog.info? 3).map (fun i => (i.zero, i.size, i.bytes)) = some (some (.int .i64 0), 1, 8) := by kernel_rfl
theorem one_int (w : World) (z : Int) : Rd (w.alloc (.cells #[.int .i64 z] 3)) (some ⟨w.heap.size, 0, none⟩) [z] := Bk.rd (Bk.new w 3 [z])
theorem Rdr.kept {w w' : World} {g p lo hi : Nat} (h : Rdr w g p) (k : Chg lo hi w w') (h1 : g < lo) : Rdr w' g p := h.chg k (.inl h1)

def SomeSpaces (g p : Nat) (w : World) (e : Ending) (w' : World) : Prop := ∃ (zs : List Int) (A : Option Addr) (c p' : Nat), e = .returned (.slice A zs.length c) ∧ zs.length ≤ 8 ∧ Fr 3 w' w.heap.size A c zs ∧ Rdr w' g p' ∧ p' ≤ p + 10 ∧ w.grownBy w' (some g)
def SpLoop (g p : Nat) (w : World) (o i : Value) (wr : World) : Prop := ∃ (k : Nat) (zs : List Int) (A : Option Addr) (c p' : Nat), i = .int .i64 k ∧ o = .slice A zs.length c ∧ zs.length + k ≤ 8 ∧ Fr 3 wr w.heap.size A c zs ∧ Rdr wr g p' ∧ p' + k ≤ p + 10 ∧ Chg g (g + 1) w wr

set_option maxHeartbeats 4000000 in
theorem l5Spaces_c (g p : Nat) (w : World) (h : Rdr w g p) (hp : p ≤ 800000) : Calls Try.prog 39 #[.pointer (some ⟨g, 0, none⟩)] w (SomeSpaces g p w) := by
  obtain ⟨i0, hi, hz0, hz1, hz2⟩ := info_parts infoInt
  have lg := h.lt
  have HR0 := Lib.hid h
  clear h
  go_enter Try.func39, Try.ntmps39
  go_wp2_with fail
  refine name_calls ?_; intro v1 hv1
  have X1 : Hid (Chg (0) (0) w v1) := Lib.hid (by rw [hv1]; repeat' (first | with_reducible exact Chg.refl _ _ _ | with_reducible refine Chg.alloc ?_ _ | with_reducible refine Chg.drew ?_ | with_reducible refine Chg.set ?_ (by omega) _))
  have t1 : w.heap.size ≤ v1.heap.size := X1.out.size
  have Ev1 : Hid (Chg g (g + 1) w v1) := Lib.hid ((Chg.refl g (g + 1) w).step X1.out (by omega))
  replace HR0 := Lib.hid (HR0.out.chg X1.out (by omega))
  have L1 : Hid (Rd v1 (some ⟨w.heap.size + 1, 0, none⟩) ([4, 3, 6, 1, 8, 0] : List Int)) := Lib.hid (by rw [hv1]; repeat' (first | exact Rd.lits _ _ _ | exact Rd.lits_at _ _ _ (by simp) | with_reducible refine Rd.alloc ?_ _))
  clear hv1
  refine (num_c g p _ 0 _ [4, 3, 6, 1, 8, 0] _ HR0.out L1.out (by simp) (by simp) (by omega) (by omega)).mono ?_; rintro r w1 ⟨n1, rfl, hhn1, hrd1, hb1⟩
  have Y1 : Hid (Chg (g) (g + 1) v1 w1) := Lib.hid (Chg.of_grown hb1 (fun b hb => by injection hb with hb; omega))
  have s1 : v1.heap.size ≤ w1.heap.size := Y1.out.size
  have Ew1 : Hid (Chg g (g + 1) w w1) := Lib.hid (Ev1.out.step Y1.out (by omega))
  clear hb1
  clear HR0
  have HRD1 := Lib.hid hrd1; clear hrd1
  have HHN1 := Lib.hid hhn1; clear hhn1
  have hn3 : ∃ k : Nat, n1 = (k : Int) ∧ k ≤ 8 := ⟨n1.toNat, by have := HHN1.out; simp at this; omega, by have := HHN1.out; simp at this; omega⟩
  obtain ⟨k3, rfl, hk3⟩ := hn3
  have HST : Hid (SpLoop g p w (.slice (some ⟨w.heap.size, 0, none⟩) 0 0) (.int .i64 k3) w1) := Lib.hid ⟨k3, [], some ⟨w.heap.size, 0, none⟩, 0, p + 1, rfl, rfl, by simpa using hk3, Fr.none_ _ _ _ _, HRD1.out, by omega, Ew1.out⟩
  clear HHN1 HRD1
  go_wp2
  go_loopw [3, 4] (fun o i wr => SpLoop g p w o i wr) (fun _ i _ => (intOf i).toNat)
  case atStart => exact HST.out
  case round =>
    clear HST
    obtain ⟨k, zs, A, c, p', rfl, rfl, hk, hf, hrd, hpp, hch⟩ := hrel
    have HF := Lib.hid hf
    have HRD := Lib.hid hrd
    have Ewr := Lib.hid hch
    have WHF := Lib.hid HF.out.row
    have hsz := Ewr.out.size
    clear hf hrd hch
    by_cases hlt : 0 < k
    · have hlt' : (0 : Int) < (k : Int) := by omega
      go_wp2_with fail
      refine name_calls ?_; intro v5 hv5
      have X5 : Hid (Chg (0) (0) wr v5) := Lib.hid (by rw [hv5]; repeat' (first | with_reducible exact Chg.refl _ _ _ | with_reducible refine Chg.alloc ?_ _ | with_reducible refine Chg.drew ?_ | with_reducible refine Chg.set ?_ (by omega) _))
      have t5 : wr.heap.size ≤ v5.heap.size := X5.out.size
      have Ev5 : Hid (Chg g (g + 1) w v5) := Lib.hid (Ewr.out.step X5.out (by omega))
      replace HF := Lib.hid (HF.out.chg X5.out WHF.out (by omega))
      replace HRD := Lib.hid (HRD.out.chg X5.out (by omega))
      have L5 : Hid (Rd v5 (some ⟨wr.heap.size, 0, none⟩) ([0, 1, 2, 3, 4, 5, 15] : List Int)) := Lib.hid (by rw [hv5]; repeat' (first | exact Rd.lits _ _ _ | exact Rd.lits_at _ _ _ (by simp) | with_reducible refine Rd.alloc ?_ _))
      clear hv5
      refine (num_c g p' _ 0 _ [0, 1, 2, 3, 4, 5, 15] _ HRD.out L5.out (by simp) (by simp) (by omega) (by omega)).mono ?_; rintro r w5 ⟨z5, rfl, hhz5, hrd5, hb5⟩
      have Y5 : Hid (Chg (g) (g + 1) v5 w5) := Lib.hid (Chg.of_grown hb5 (fun b hb => by injection hb with hb; omega))
      have s5 : v5.heap.size ≤ w5.heap.size := Y5.out.size
      have Ew5 : Hid (Chg g (g + 1) w w5) := Lib.hid (Ev5.out.step Y5.out (by omega))
      clear hb5
      replace HF := Lib.hid (HF.out.chg Y5.out WHF.out (by omega))
      clear HRD
      have HRD5 := Lib.hid hrd5; clear hrd5
      have HHZ5 := Lib.hid hhz5; clear hhz5
      have h63 : zs.length + 1 ≤ maxLen := by simp [maxLen]; omega
      have hby : (zs.length + 1) * 8 ≤ 140737488355328 := by omega
      have hkk : (k : Int) - 1 = ((k - 1 : Nat) : Int) := by omega
      have HKK := Lib.hid hkk
      clear hkk
      go_wp2_with (at_builtin; refine wpList_append_fr (α := Int) rfl _ _ 67 rfl 3 i0 _ 8 w.heap.size Try.underlying67 hi hz0 hz1 hz2 rfl _ _ _ zs rfl rfl (HF.out.alloc _) _ 1 1 [z5] rfl rfl (one_int _ _) h63 hby (by simp <;> omega) ?_)
      intro A6 c6 w6 ha
      have HA := Lib.hid ha
      clear ha
      have Y6 : Hid (Chg w.heap.size wr.heap.size w5 w6) := Lib.hid (((Chg.refl _ _ w5).alloc _).trans (Chg.of_grown HA.out.grown WHF.out))
      have HL : Hid ((zs ++ [z5]).length = zs.length + 1) := Lib.hid (by simp)
      go_wp2
      go_roundw
      case rel => exact ⟨k - 1, zs ++ [z5], A6, c6, p' + 1, by rw [HKK.out], by rw [HL.out], by rw [HL.out]; omega, HA.out.fr, HRD5.out.chg Y6.out (.inl lg), by omega, Ew5.out.step Y6.out (.inr (.inl (Nat.le_refl _)))⟩
      case measure => simp [intOf]; omega
    · obtain rfl : k = 0 := by omega
      go_wp2
      go_ret
      exact ⟨zs, A, c, p', rfl, by omega, HF.out, HRD.out, by omega, Chg.grown Ewr.out⟩
end Go.Proofs.Ytidnefcnojedoaa
