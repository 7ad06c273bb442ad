/- Dropping lines one after the other: plain facts on the row that is turned in place. -/
import Derived.Test.YtcaaficjcghheabPl
import Derived.Test.YtcaaficjcghheabChg
namespace Go.Proofs.Ytcaaficjcghheab
open Go.ChangeShapes Go.WideShapes Go.ChangeAt Go.RowKit
open Rec (sz cs)
set_option linter.unusedVariables false

def dropUp (xs : List LineD) (p : LineD → Bool) (k : Nat) : List LineD := (xs.take k).map (dropL p) ++ xs.drop k
theorem dropUp_zero (xs : List LineD) (p : LineD → Bool) : dropUp xs p 0 = xs := by simp [dropUp]
theorem dropUp_full (xs : List LineD) (p : LineD → Bool) : dropUp xs p xs.length = xs.map (dropL p) := by simp [dropUp]
theorem dropUp_length (xs : List LineD) (p : LineD → Bool) (k : Nat) : (dropUp xs p k).length = xs.length := by
  simp [dropUp]; omega
theorem dropUp_get {xs : List LineD} {p : LineD → Bool} {k : Nat} {x : LineD} (h : xs[k]? = some x) : (dropUp xs p k)[k]? = some x := by
  have hk := getElem?_lt h
  unfold dropUp
  rw [List.getElem?_append_right (by simp; omega)]
  simp only [List.length_map, List.length_take, List.getElem?_drop]
  rw [show k + (k - min k xs.length) = k by omega]
  exact h
theorem dropUp_set {xs : List LineD} {p : LineD → Bool} {k : Nat} {x : LineD} (h : xs[k]? = some x) : dropUp xs p (k + 1) = (dropUp xs p k).set k (dropL p x) := by
  have hk := getElem?_lt h
  unfold dropUp
  rw [take_succ_of h, List.map_append, List.map_cons, List.map_nil, List.set_append_right _ _ (by simp; omega)]
  simp only [List.length_map, List.length_take]
  rw [show k - min k xs.length = 0 by omega]
  have e : xs.drop k = x :: xs.drop (k + 1) := by
    rw [List.drop_eq_getElem_cons hk]
    rw [List.getElem?_eq_getElem hk] at h
    injection h with h
    rw [h]
  rw [e, List.set_cons_zero, List.append_assoc]
  rfl
theorem dropUp_keep {xs : List LineD} {p : LineD → Bool} {k : Nat} {x : LineD} (h : xs[k]? = some x) (hd : dropL p x = x) : dropUp xs p (k + 1) = dropUp xs p k := by
  rw [dropUp_set h, hd]
  refine List.ext_getElem? fun i => ?_
  by_cases e : i = k
  · subst e
    rw [dropUp_get h, List.getElem?_set_self (by rw [dropUp_length]; exact getElem?_lt h)]
  · rw [List.getElem?_set_ne (fun q => e q.symm)]
end Go.Proofs.Ytcaaficjcghheab
