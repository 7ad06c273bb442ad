/- Plain: new caches, and filling them round after round. -/
import Derived.Test.YtcaaficjcghheaaPl
import Derived.Test.YtcaaficjcghheaaCt
namespace Go.Proofs.Ytcaaficjcghheaa
open Go.ChangeShapes Go.WideShapes Go.ChangeAt Go.RowKit
set_option linter.unusedVariables false

def newOf (m : Nat) : CacheD := ⟨List.replicate m noLine, 0⟩
theorem newCache_eq {m : Nat} (h1 : 1 ≤ m) (h2 : m ≤ 8) : newCache (m : Int) = (newOf m, true) := by
  unfold newCache newOf
  rw [if_pos (by omega), Int.toNat_natCast]
theorem new_cv {m : Nat} (h1 : 1 ≤ m) (h2 : m ≤ 8) : CV (newOf m) := by
  have hg : ∀ (i : Nat) (x : LineD), (newOf m).lines[i]? = some x → x = noLine := fun i x hx => by
    unfold newOf at hx
    simp only [List.getElem?_replicate] at hx
    split at hx
    · injection hx with hx; exact hx.symm
    · cases hx
  refine ⟨by simp [newOf]; omega, by simp [newOf]; omega, by simp [newOf], by simp [newOf]; omega, fun i x hx => by rw [hg i x hx]; exact lineV_noLine, fun i j x y _ hx hy => by rw [hg i x hx]; exact clash_no' _, ⟨0, noLine, ?_, rfl⟩⟩
  unfold newOf
  simp only [List.getElem?_replicate]
  rw [if_pos (by omega)]
theorem new_dropAll {m : Nat} (h1 : 1 ≤ m) (h2 : m ≤ 8) : dropAll (newOf m) = (newOf m, true) := by
  rw [dropAll_eq (new_cv h1 h2), dropIf_self]
  intro i x hx
  unfold newOf at hx
  simp only [List.getElem?_replicate] at hx
  split at hx
  · injection hx with hx
    subst hx
    unfold dropL; split <;> rfl
  · cases hx
theorem new_victim {m : Nat} (h1 : 1 ≤ m) (h2 : m ≤ 8) : victimOf (newOf m) = (0, true) := by
  obtain ⟨v, x, e, hx, hw, h⟩ := victim_spec (new_cv h1 h2)
  rw [victimOf_eq (new_cv h1 h2), e]
  have h0 : (newOf m).lines[0]? = some noLine := by
    unfold newOf
    simp only [List.getElem?_replicate]
    rw [if_pos (by omega)]
  rcases h with ⟨_, h⟩ | h
  · by_cases hv : 0 < v
    · have := h 0 noLine hv h0; cases this
    · have : v = 0 := by omega
      subst this; rfl
  · have := h 0 noLine h0; cases this

def lineAt (k : Nat) : LineD := ⟨true, 1, (k : Int), 2, 1, false⟩
/-- A new cache into which k pages have been filled, and whether each went where it should. -/
def runFill (m : Nat) : Nat → CacheD × Bool
  | 0 => (newOf m, true)
  | k + 1 => ((fillLine (runFill m k).1 (lineAt k)).1, (runFill m k).2 && eqB (fillLine (runFill m k).1 (lineAt k)).2 ((k : Int) % (m : Int), true))
def fillSt (m k : Nat) : CacheD := (runFill m k).1
def fillChk (m : Nat) : Bool := (runFill m (3 * m)).2 && (eqB (fillSt m (3 * m)).hand 0 && (List.range (3 * m)).all fun k => eqB (findLine (fillSt m (3 * m)) 1 (k : Int)).2 (decide (2 * m ≤ k)))
theorem fillChk_all : fillChk 1 = true ∧ fillChk 2 = true ∧ fillChk 3 = true ∧ fillChk 4 = true ∧ fillChk 5 = true ∧ fillChk 6 = true ∧ fillChk 7 = true ∧ fillChk 8 = true := by
  refine ⟨?_, ?_, ?_, ?_, ?_, ?_, ?_, ?_⟩ <;> decide +kernel
theorem fillChk_of {m : Nat} (h1 : 1 ≤ m) (h2 : m ≤ 8) : fillChk m = true := by
  obtain ⟨a, b, c, d, e, f, g, h⟩ := fillChk_all
  have : m = 1 ∨ m = 2 ∨ m = 3 ∨ m = 4 ∨ m = 5 ∨ m = 6 ∨ m = 7 ∨ m = 8 := by omega
  rcases this with rfl | rfl | rfl | rfl | rfl | rfl | rfl | rfl
  · with_reducible exact a
  · with_reducible exact b
  · with_reducible exact c
  · with_reducible exact d
  · with_reducible exact e
  · with_reducible exact f
  · with_reducible exact g
  · with_reducible exact h
theorem runFill_mono (m : Nat) : ∀ j k, k ≤ j → (runFill m j).2 = true → (runFill m k).2 = true := by
  intro j
  induction j with
  | zero => intro k hk h; have : k = 0 := by omega
            subst this; exact h
  | succ j ih =>
    intro k hk h
    by_cases e : k = j + 1
    · subst e; exact h
    · exact ih k (by omega) (by
        have : (runFill m (j + 1)).2 = ((runFill m j).2 && eqB (fillLine (runFill m j).1 (lineAt j)).2 ((j : Int) % (m : Int), true)) := rfl
        rw [this, Bool.and_eq_true] at h
        exact h.1)
theorem fill_step {m k : Nat} (h1 : 1 ≤ m) (h2 : m ≤ 8) (hk : k < 3 * m) : fillLine (fillSt m k) (lineAt k) = (fillSt m (k + 1), (k : Int) % (m : Int), true) := by
  have h := fillChk_of h1 h2
  unfold fillChk at h
  rw [Bool.and_eq_true] at h
  have h3 := runFill_mono m (3 * m) (k + 1) (by omega) h.1
  have : (runFill m (k + 1)).2 = ((runFill m k).2 && eqB (fillLine (runFill m k).1 (lineAt k)).2 ((k : Int) % (m : Int), true)) := rfl
  rw [this, Bool.and_eq_true] at h3
  have h4 := eqB_true.1 h3.2
  show fillLine (fillSt m k) (lineAt k) = ((fillLine (runFill m k).1 (lineAt k)).1, (k : Int) % (m : Int), true)
  rw [← h4]
  rfl
theorem fill_hand {m : Nat} (h1 : 1 ≤ m) (h2 : m ≤ 8) : (fillSt m (3 * m)).hand = 0 := by
  have h := fillChk_of h1 h2
  unfold fillChk at h
  rw [Bool.and_eq_true, Bool.and_eq_true] at h
  exact eqB_true.1 h.2.1
theorem fill_find {m k : Nat} (h1 : 1 ≤ m) (h2 : m ≤ 8) (hk : k < 3 * m) : (findLine (fillSt m (3 * m)) 1 (k : Int)).2 = decide (2 * m ≤ k) := by
  have h := fillChk_of h1 h2
  unfold fillChk at h
  rw [Bool.and_eq_true, Bool.and_eq_true, List.all_eq_true] at h
  exact eqB_true.1 (h.2.2 k (List.mem_range.2 hk))
theorem fillSt_few (m : Nat) (h2 : m ≤ 8) : ∀ k, (fillSt m k).lines.length ≤ 1048576 := by
  intro k
  induction k with
  | zero => show (newOf m).lines.length ≤ 1048576; simp [newOf]; omega
  | succ k ih => exact fillLine_few _ _ ih
end Go.Proofs.Ytcaaficjcghheaa
