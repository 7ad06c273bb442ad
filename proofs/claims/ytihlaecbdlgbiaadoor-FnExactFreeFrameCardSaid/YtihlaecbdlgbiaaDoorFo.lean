/- The place of the first element of a list of which a test holds. No program in sight. -/
import Derived.Test.YtihlaecbdlgbiaaDoorData
namespace Go.Proofs.YtihlaecbdlgbiaaDoor
open Go.ChangeShapes Go.WideShapes Go.ChangeAt Go.RowKit

/-- The place of the first element of which p holds, or -1. -/
def firstOf {α : Type} (p : α → Bool) (xs : List α) : Int := match xs.findIdx? p with | some i => (i : Int) | none => -1
theorem firstOf_at {α : Type} {p : α → Bool} {xs : List α} {k : Nat} {x : α} (hx : xs[k]? = some x) (hp : p x = true) (h : ∀ j y, j < k → xs[j]? = some y → p y = false) : firstOf p xs = k := by
  have hk := getElem?_lt hx
  have : xs.findIdx? p = some k := by
    rw [List.findIdx?_eq_some_iff_getElem]
    refine ⟨hk, ?_, fun j hj => ?_⟩
    · rw [List.getElem?_eq_getElem hk] at hx
      injection hx with hx
      rw [hx]; exact hp
    · have := h j _ hj (List.getElem?_eq_getElem (by omega))
      simp [this]
  unfold firstOf; rw [this]
theorem firstOf_none {α : Type} {p : α → Bool} {xs : List α} (h : ∀ j y, j < xs.length → xs[j]? = some y → p y = false) : firstOf p xs = -1 := by
  have : xs.findIdx? p = none := by
    rw [List.findIdx?_eq_none_iff]
    intro x hx
    obtain ⟨j, hj, rfl⟩ := List.getElem_of_mem hx
    exact h j _ hj (List.getElem?_eq_getElem hj)
  unfold firstOf; rw [this]
theorem firstOf_cases {α : Type} (p : α → Bool) (xs : List α) : (firstOf p xs = -1 ∧ ∀ (j : Nat) (y : α), xs[j]? = some y → p y = false) ∨ ∃ (k : Nat) (x : α), firstOf p xs = (k : Int) ∧ xs[k]? = some x ∧ p x = true ∧ ∀ (j : Nat) (y : α), j < k → xs[j]? = some y → p y = false := by
  unfold firstOf
  cases h : xs.findIdx? p with
  | none =>
    rw [List.findIdx?_eq_none_iff] at h
    exact .inl ⟨rfl, fun j y hy => h y (List.mem_of_getElem? hy)⟩
  | some k =>
    rw [List.findIdx?_eq_some_iff_getElem] at h
    obtain ⟨hk, hp, hj⟩ := h
    refine .inr ⟨k, xs[k], rfl, List.getElem?_eq_getElem hk, hp, fun j y hjk hy => ?_⟩
    have := hj j hjk
    have e := List.getElem?_eq_getElem (l := xs) (i := j) (by omega)
    rw [hy] at e
    injection e with e
    rw [e]; simpa using this

end Go.Proofs.YtihlaecbdlgbiaaDoor
