/- Tags: the argument that FnNewTags and FnTagOne draw, and the runs of the model that they ask. -/
import Derived.Test.YtkiohppknlmfaaaSa
import Derived.Test.YtkiohppknlmfaaaTp
namespace Go.Proofs.Ytkiohppknlmfaaa
open Go.ChangeShapes Go.WideShapes Go.ChangeAt Go.RowKit
open Rec (sz cs)
set_option linter.unusedVariables false
set_option maxRecDepth 100000

def SomeNum (zs : List Int) (w : World) (e : Ending) (w' : World) : Prop := ∃ v : Int, e = .returned (.int .i64 v) ∧ v ∈ zs ∧ Ex w w'

set_option maxHeartbeats 4000000 in
theorem drawNewTags_c (A : Option Addr) (c : Nat) (bs : List ByteD) (w : World) (hx : Rd w A bs) (hb : Bytes bs) (hn : bs.length ≤ 1048576) (hc : bs.length ≤ c) (hcm : c ≤ maxLen) :
    Calls Try.prog 27 #[.slice A bs.length c] w (SomeNum [4, 1, 8, 3, 0, 9] w) := by
  have C0 := Lib.hid (fun w' (h : Ex w w') => l12Open_c A c bs w' (hx.ex h) hb hn hc hcm)
  generalize bs.length = n at C0 hn hc
  clear hx hb hn hc hcm
  go_enter Try.func27, Try.ntmps27
  go_wp2_with fail
  refine name_calls ?_; intro v1 hv1
  have X1 : Hid (Chg (0) (0) w v1) := Lib.hid (by rw [hv1]; repeat' (first | with_reducible exact Chg.refl _ _ _ | with_reducible refine Chg.alloc ?_ _ | with_reducible refine Chg.drew ?_ | with_reducible refine Chg.set ?_ (by omega) _))
  have t1 : w.heap.size ≤ v1.heap.size := X1.out.size
  have Ev1 : Hid (Ex w v1) := Lib.hid ((Ex.refl w).chg X1.out (by omega))
  clear hv1
  refine (C0.out _ Ev1.out).mono ?_; rintro r w1 ⟨g, rfl, hrd1, hg1, hb1⟩
  have Y1 : Hid (Chg 0 0 v1 w1) := Lib.hid (Chg.of_ex hb1)
  have s1 : v1.heap.size ≤ w1.heap.size := Y1.out.size
  have Ew1 : Hid (Ex w w1) := Lib.hid (Ev1.out.chg Y1.out (by omega))
  clear hb1
  have HRD1 := Lib.hid hrd1; clear hrd1
  have lg : g < w1.heap.size := HRD1.out.lt
  go_wp2_with fail
  refine name_calls ?_; intro v2 hv2
  have X2 : Hid (Chg (0) (0) w1 v2) := Lib.hid (by rw [hv2]; repeat' (first | with_reducible exact Chg.refl _ _ _ | with_reducible refine Chg.alloc ?_ _ | with_reducible refine Chg.drew ?_ | with_reducible refine Chg.set ?_ (by omega) _))
  have t2 : w1.heap.size ≤ v2.heap.size := X2.out.size
  have Ev2 : Hid (Ex w v2) := Lib.hid (Ew1.out.chg X2.out (by omega))
  replace HRD1 := Lib.hid (HRD1.out.chg X2.out (by omega))
  have L2 : Hid (Rd v2 (some ⟨w1.heap.size, 0, none⟩) ([4, 1, 8, 3, 0, 9] : List Int)) := Lib.hid (by rw [hv2]; repeat' (first | exact Rd.lits _ _ _ | exact Rd.lits_at _ _ _ (by simp) | with_reducible refine Rd.alloc ?_ _))
  clear hv2
  refine (num_c g 0 _ 0 _ [4, 1, 8, 3, 0, 9] _ HRD1.out L2.out (by simp) (by simp) (by omega) (by omega)).mono ?_; rintro r w2 ⟨n2, rfl, hhn2, hrd2, hb2⟩
  have Y2 : Hid (Chg (g) (g + 1) v2 w2) := Lib.hid (Chg.of_grown hb2 (fun b hb => by injection hb with hb; omega))
  have s2 : v2.heap.size ≤ w2.heap.size := Y2.out.size
  have Ew2 : Hid (Ex w w2) := Lib.hid (Ev2.out.chg Y2.out (by omega))
  clear hb2
  clear HRD1
  have HRD2 := Lib.hid hrd2; clear hrd2
  have HHN2 := Lib.hid hhn2; clear hhn2
  go_wp2
  go_ret
  exact ⟨n2, rfl, HHN2.out, Ew2.out⟩

def seqA (n : Nat) : List Int := (List.range n).map fun (i : Nat) => ((i : Int) * 5 + 3) % 16
def seqB (n : Nat) : List Int := (List.range n).map fun (i : Nat) => (i : Int)
theorem seqA_len (n : Nat) : (seqA n).length = n := by simp [seqA]
theorem seqB_len (n : Nat) : (seqB n).length = n := by simp [seqB]
theorem seqA_succ (n : Nat) : seqA (n + 1) = seqA n ++ [((n : Int) * 5 + 3) % 16] := by simp [seqA, List.range_succ]
theorem seqB_succ (n : Nat) : seqB (n + 1) = seqB n ++ [(n : Int)] := by simp [seqB, List.range_succ]
def newB (k : Nat) : Bool := (takeTags ⟨k, 0, 0, []⟩ (seqA k)).2.1 == 0 && ((takeTags ⟨k, 0, 0, []⟩ (seqA k)).2.2 && ((takeTags ⟨k, 0, 0, []⟩ (seqA k)).1.next == k && ((takeTag (takeTags ⟨k, 0, 0, []⟩ (seqA k)).1 0).2.2.1 && (takeTag (takeTags ⟨k, 0, 0, []⟩ (seqA k)).1 0).2.2.2)))
def oneB (k : Nat) : Bool := (takeTags ⟨k, 0, 0, []⟩ (seqB 16)).2.2 && ((takeTags ⟨k, 0, 0, []⟩ (seqB 16)).2.1 == 15 / (k : Int))
theorem new_runs : newB 1 = true ∧ newB 3 = true ∧ newB 4 = true ∧ newB 8 = true := by decide +kernel
theorem one_runs : oneB 1 = true ∧ oneB 3 = true ∧ oneB 4 = true ∧ oneB 8 = true := by decide +kernel
def NewLaw (k : Nat) : Prop := ∃ (x y : TagsD) (g : Int), takeTags ⟨k, 0, 0, []⟩ (seqA k) = (x, 0, true) ∧ x.next = k ∧ takeTag x 0 = (y, g, true, true)
def OneLaw (k : Nat) : Prop := ∃ (x : TagsD), takeTags ⟨k, 0, 0, []⟩ (seqB 16) = (x, 15 / (k : Int), true)
theorem newLaw_of {k : Nat} (h : newB k = true) : NewLaw k := by
  unfold newB at h
  unfold NewLaw
  generalize takeTags ⟨k, 0, 0, []⟩ (seqA k) = q at h ⊢
  obtain ⟨x, r, ok⟩ := q
  simp only at h
  generalize ht : takeTag x 0 = q2 at h ⊢
  obtain ⟨y, g, f2, ok2⟩ := q2
  simp only [Bool.and_eq_true, beq_iff_eq] at h
  obtain ⟨rfl, rfl, h3, rfl, rfl⟩ := h
  exact ⟨x, y, g, rfl, h3, ht⟩
theorem oneLaw_of {k : Nat} (h : oneB k = true) : OneLaw k := by
  unfold oneB at h
  unfold OneLaw
  generalize takeTags ⟨k, 0, 0, []⟩ (seqB 16) = q at h ⊢
  obtain ⟨x, r, ok⟩ := q
  simp only [Bool.and_eq_true, beq_iff_eq] at h
  obtain ⟨rfl, rfl⟩ := h
  exact ⟨x, rfl⟩
theorem newTags_or {n : Int} (h : n ∈ [4, 1, 8, 3, 0, (9 : Int)]) : newTags n = (noTags, false) ∨ ∃ k : Nat, n = (k : Int) ∧ 1 ≤ k ∧ k ≤ 8 ∧ newTags n = (⟨(k : Int), 0, 0, []⟩, true) ∧ NewLaw k ∧ OneLaw k := by
  have hn := new_runs
  have ho := one_runs
  simp at h
  rcases h with rfl | rfl | rfl | rfl | rfl | rfl
  · exact .inr ⟨4, rfl, by omega, by omega, rfl, newLaw_of hn.2.2.1, oneLaw_of ho.2.2.1⟩
  · exact .inr ⟨1, rfl, by omega, by omega, rfl, newLaw_of hn.1, oneLaw_of ho.1⟩
  · exact .inr ⟨8, rfl, by omega, by omega, rfl, newLaw_of hn.2.2.2, oneLaw_of ho.2.2.2⟩
  · exact .inr ⟨3, rfl, by omega, by omega, rfl, newLaw_of hn.2.1, oneLaw_of ho.2.1⟩
  · exact .inl rfl
  · exact .inl rfl
end Go.Proofs.Ytkiohppknlmfaaa
