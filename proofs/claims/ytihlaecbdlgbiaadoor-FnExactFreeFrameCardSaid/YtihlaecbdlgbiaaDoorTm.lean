/- When are tags valid: the plain functions. A set of numbers kept in a map of the call's own. -/
import Derived.Test.YtihlaecbdlgbiaaDoorTd
import Derived.Test.YtihlaecbdlgbiaaDoorWi
import Derived.Test.YtihlaecbdlgbiaaDoorL1
import Derived.Maps.OwnOps
import Derived.Maps.Views
namespace Go.Proofs.YtihlaecbdlgbiaaDoor
open Go.ChangeShapes Go.WideShapes Go.ChangeAt Go.RowKit
open Rec (sz cs)
set_option linter.unusedVariables false
set_option maxRecDepth 100000

def ownAt (t : TagsD) (i : Nat) : Bool := decide (0 ≤ (t.owns.getD i ⟨0, 0⟩).tag ∧ (t.owns.getD i ⟨0, 0⟩).tag < t.next ∧ 0 ≤ (t.owns.getD i ⟨0, 0⟩).space ∧ (t.owns.getD i ⟨0, 0⟩).space < 16) &&
  (List.range i).all fun j => decide ((t.owns.getD j ⟨0, 0⟩).tag < (t.owns.getD i ⟨0, 0⟩).tag ∧ (t.owns.getD j ⟨0, 0⟩).space ≠ (t.owns.getD i ⟨0, 0⟩).space)
def TagsHead (t : TagsD) : Prop := 1 ≤ t.count ∧ t.count ≤ 8 ∧ 0 ≤ t.next ∧ t.next ≤ t.count ∧ 0 ≤ t.round ∧ t.round ≤ 1000000
def tagsV (t : TagsD) : Bool := decide (1 ≤ t.count ∧ t.count ≤ 8 ∧ 0 ≤ t.next ∧ t.next ≤ t.count ∧ 0 ≤ t.round ∧ t.round ≤ 1000000) && (List.range t.owns.length).all (ownAt t)

def OwnsUp (t : TagsD) (k : Nat) : Prop := ∀ i x, i < k → t.owns[i]? = some x → (0 ≤ x.tag ∧ x.tag < t.next ∧ 0 ≤ x.space ∧ x.space < 16) ∧ ∀ j y, j < i → t.owns[j]? = some y → y.tag < x.tag ∧ y.space ≠ x.space

theorem own_getD {xs : List OwnD} {i : Nat} {x d : OwnD} (h : xs[i]? = some x) : xs.getD i d = x := by
  rw [List.getD_eq_getElem?_getD, h]; rfl

theorem tagsV_iff (t : TagsD) : tagsV t = true ↔ TagsHead t ∧ OwnsUp t t.owns.length := by
  unfold tagsV
  rw [Bool.and_eq_true, decide_eq_true_iff]
  have h1 : ((List.range t.owns.length).all (ownAt t) = true) ↔ OwnsUp t t.owns.length := by
    rw [List.all_eq_true]
    constructor
    · intro h i x hi hx
      have := h i (List.mem_range.2 hi)
      unfold ownAt at this
      rw [Bool.and_eq_true, List.all_eq_true, own_getD hx] at this
      refine ⟨by simpa using this.1, fun j y hj hy => ?_⟩
      have h2 := this.2 j (List.mem_range.2 hj)
      rw [own_getD hy] at h2
      simpa using h2
    · intro h i hi
      have hi' := List.mem_range.1 hi
      obtain ⟨x, hx⟩ : ∃ x, t.owns[i]? = some x := ⟨_, List.getElem?_eq_getElem hi'⟩
      have h2 := h i x hi' hx
      unfold ownAt
      rw [Bool.and_eq_true, List.all_eq_true, own_getD hx]
      refine ⟨by simpa using h2.1, fun j hj => ?_⟩
      have hj' := List.mem_range.1 hj
      obtain ⟨y, hy⟩ : ∃ y, t.owns[j]? = some y := ⟨_, List.getElem?_eq_getElem (by omega)⟩
      rw [own_getD hy]
      simpa using h2.2 j y hj' hy
  rw [h1]
  rfl

theorem ownsUp_zero (t : TagsD) : OwnsUp t 0 := fun i x h => by omega
theorem ownsUp_succ {t : TagsD} {k : Nat} {x : OwnD} (h : OwnsUp t k) (hx : t.owns[k]? = some x) (hv : 0 ≤ x.tag ∧ x.tag < t.next ∧ 0 ≤ x.space ∧ x.space < 16) (hc : ∀ j y, j < k → t.owns[j]? = some y → y.tag < x.tag ∧ y.space ≠ x.space) : OwnsUp t (k + 1) := by
  intro i z hi hz
  by_cases e : i = k
  · subst e
    rw [hx] at hz
    injection hz with hz
    subst hz
    exact ⟨hv, hc⟩
  · exact h i z (by omega) hz
theorem tagsV_bad {t : TagsD} {k : Nat} {x : OwnD} (hx : t.owns[k]? = some x) (hv : ¬ ((0 ≤ x.tag ∧ x.tag < t.next ∧ 0 ≤ x.space ∧ x.space < 16) ∧ ∀ j y, j < k → t.owns[j]? = some y → y.tag < x.tag ∧ y.space ≠ x.space)) : tagsV t = false := by
  cases h : tagsV t
  · rfl
  · exact absurd (((tagsV_iff t).1 h).2 k x (getElem?_lt hx) hx) hv
theorem tagsV_bad_head {t : TagsD} (h : ¬ TagsHead t) : tagsV t = false := by
  cases h2 : tagsV t
  · rfl
  · exact absurd ((tagsV_iff t).1 h2).1 h
theorem tagsV_end {t : TagsD} (h1 : TagsHead t) (h2 : OwnsUp t t.owns.length) : tagsV t = true := (tagsV_iff t).2 ⟨h1, h2⟩

/-- Tags that ascend from 0 on are no more than the next one. -/
theorem ownsUp_few {t : TagsD} {k : Nat} (h : OwnsUp t k) (hk : k ≤ t.owns.length) : ∀ i x, i < k → t.owns[i]? = some x → (i : Int) ≤ x.tag := by
  intro i
  induction i with
  | zero => intro x hi hx; exact (h 0 x hi hx).1.1
  | succ i ih =>
    intro x hi hx
    obtain ⟨y, hy⟩ : ∃ y, t.owns[i]? = some y := ⟨_, List.getElem?_eq_getElem (by omega)⟩
    have h1 := ih y (by omega) hy
    have h2 := ((h (i + 1) x hi hx).2 i y (by omega) hy).1
    omega
theorem ownsUp_len {t : TagsD} (h : OwnsUp t t.owns.length) (hn : 0 ≤ t.next) : (t.owns.length : Int) ≤ t.next := by
  by_cases h0 : t.owns.length = 0
  · rw [h0]; exact hn
  · obtain ⟨x, hx⟩ : ∃ x, t.owns[t.owns.length - 1]? = some x := ⟨_, List.getElem?_eq_getElem (by omega)⟩
    have h1 := ownsUp_few h (Nat.le_refl _) _ x (by omega) hx
    have h2 := (h _ x (by omega) hx).1.2.1
    omega

/-! ### A map of the call's own that holds true at some numbers -/
open Go.Maps (Keyed)
theorem kInt : Keyed Tryd.prog 3 := Maps.int_keyed Tryd.underlying3

def HasInts (w : World) (b n : Nat) (S : List Int) : Prop := ∃ D : DataW Unit, w.ownsMap Tryd.prog 3 (plainElem Tryd.prog 4) b n D ∧ Maps.IsMap D ∧ ∀ x : Int, D.atKey (.int .i64 x) (.lit (.bool false)) = .lit (.bool (decide (x ∈ S)))

theorem HasInts.made (w : World) : HasInts (w.alloc (.map #[] 0)) w.heap.size 0 [] :=
  ⟨_, World.ownsMap_made w _ _ _, Maps.isMap_empty, fun x => by simp [DataW.atKey]⟩
theorem HasInts.kept {w w' : World} {b n : Nat} {S : List Int} {row : Option Nat} (h : HasInts w b n S) (hg : w.grownBy w' row) (hne : some b ≠ row) : HasInts w' b n S := by
  obtain ⟨D, h1, h2⟩ := h
  exact ⟨D, h1.kept hg hne, h2⟩
theorem HasInts.ex {w w' : World} {b n : Nat} {S : List Int} (h : HasInts w b n S) (k : Ex w w') : HasInts w' b n S :=
  h.kept (grown_ex (grown_refl w none) k) (by simp)
theorem HasInts.lt {w : World} {b n : Nat} {S : List Int} (h : HasInts w b n S) : b < w.heap.size := by
  obtain ⟨D, h1, _⟩ := h
  exact h1.lt
theorem HasInts.look {w : World} {b n : Nat} {S : List Int} (h : HasInts w b n S) (x : Int) (hx : (Lit.int .i64 x).wf = true) :
    (Instr.lookup 111 (.map (some b)) (.int .i64 x) false).run Tryd.prog w = .ok (.bool (decide (x ∈ S))) w := by
  obtain ⟨D, h1, _, h2⟩ := h
  obtain ⟨v, ps, hrun, hv⟩ := h1.lookup kInt Tryd.underlying111 (z := .bool false) (by kernel_rfl) (plainElem_bool Tryd.underlying4 false) (Maps.keyOf_int_mk Tryd.underlying3 hx)
  rw [h2] at hv
  rw [hrun]
  unfold plainElem at hv
  rw [Tryd.underlying4] at hv
  cases v <;> simp at hv
  rw [hv.1]
theorem HasInts.put {w : World} {b n : Nat} {S : List Int} (h : HasInts w b n S) (hn : n < maxLen) (x : Int) (hx : (Lit.int .i64 x).wf = true) :
    ∃ w', (Instr.mapUpdate 111 (.map (some b)) (.int .i64 x) (.bool true)).run Tryd.prog w = .ok () w' ∧ HasInts w' b (n + 1) (x :: S) ∧ w.grownBy w' (some b) := by
  obtain ⟨D, h1, hm, h2⟩ := h
  obtain ⟨w', hrun, h3, h4⟩ := h1.update kInt Tryd.underlying111 hn (Maps.keyOf_int_mk Tryd.underlying3 hx) (plainElem_bool Tryd.underlying4 true)
  refine ⟨w', hrun, ⟨_, h3, hm.put _ _, fun y => ?_⟩, h4⟩
  by_cases e : y = x
  · subst e
    rw [Maps.atKey_put_same hm (by first | trivial | (simp [WideAt.IsKeyLit]) | exact True.intro)]
    simp
  · rw [Maps.atKey_put_other]
    · rw [h2]
      simp [e]
    · intro h; injection h with _ h; exact e h
end Go.Proofs.YtihlaecbdlgbiaaDoor
