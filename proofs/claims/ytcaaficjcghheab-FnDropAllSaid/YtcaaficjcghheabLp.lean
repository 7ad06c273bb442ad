/- Plain: dropping the tags one after the other. -/
import Derived.Test.YtcaaficjcghheabPl
namespace Go.Proofs.Ytcaaficjcghheab
open Go.ChangeShapes Go.WideShapes Go.ChangeAt Go.RowKit
set_option linter.unusedVariables false

def upTo (t : CacheD) (k : Nat) : CacheD := dropIf t (fun x => decide (x.tag < (k : Int) - 1))
theorem dropL_noLine (p : LineD → Bool) : dropL p noLine = noLine := by unfold dropL; split <;> rfl
theorem tag_of {t : CacheD} (h : CV t) {i : Nat} {x : LineD} (hx : t.lines[i]? = some x) : x = noLine ∨ (-1 ≤ x.tag ∧ x.tag < 8) := by
  cases hv : x.valid
  · exact .inl (lineV_no (h.ok i x hx) hv)
  · exact .inr (tagB_iff.1 (lineV_yes (h.ok i x hx) hv).1)
theorem upTo_zero {t : CacheD} (h : CV t) : upTo t 0 = t := by
  refine dropIf_self fun i x hx => ?_
  rcases tag_of h hx with rfl | ⟨h1, -⟩
  · exact dropL_noLine _
  · unfold dropL
    have : decide (x.tag < ((0 : Nat) : Int) - 1) = false := by simp; omega
    simp only [this, Bool.and_false]; rfl
theorem upTo_end {t : CacheD} (h : CV t) : upTo t 9 = dropIf t (fun _ => true) := by
  refine dropIf_congr fun i x hx => ?_
  rcases tag_of h hx with rfl | ⟨-, h1⟩
  · rw [dropL_noLine, dropL_noLine]
  · unfold dropL
    have : decide (x.tag < ((9 : Nat) : Int) - 1) = true := by simp; omega
    simp only [this]
theorem upTo_cv {t : CacheD} (h : CV t) (k : Nat) : CV (upTo t k) := dropIf_cv h _
theorem upTo_step {t : CacheD} (h : CV t) {k : Nat} (hk : k < 9) : dropTag (upTo t k) ((k : Int) - 1) = (upTo t (k + 1), true) := by
  rw [dropTag_eq (upTo_cv h k) (tagB_iff.2 (by omega))]
  unfold upTo dropIf
  simp only [List.map_map]
  congr 2
  refine List.map_congr_left fun x _ => ?_
  show dropL (fun x => x.tag == (k : Int) - 1) (dropL (fun x => decide (x.tag < (k : Int) - 1)) x) = dropL (fun x => decide (x.tag < ((k + 1 : Nat) : Int) - 1)) x
  by_cases h1 : x.tag < (k : Int) - 1
  · have e1 : decide (x.tag < (k : Int) - 1) = true := by simpa using h1
    have e2 : decide (x.tag < ((k + 1 : Nat) : Int) - 1) = true := by simp; omega
    have e3 : (x.tag == (k : Int) - 1) = false := by simp; omega
    cases hw : x.wired
    · have a : dropL (fun x => decide (x.tag < (k : Int) - 1)) x = noLine := by unfold dropL; simp only [hw, e1]; rfl
      have b : dropL (fun x => decide (x.tag < ((k + 1 : Nat) : Int) - 1)) x = noLine := by unfold dropL; simp only [hw, e2]; rfl
      rw [a, b, dropL_noLine]
    · have a : ∀ p, dropL p x = x := fun p => by unfold dropL; simp [hw]
      rw [a, a, a]
  · have e1 : decide (x.tag < (k : Int) - 1) = false := by simpa using h1
    have a : dropL (fun x => decide (x.tag < (k : Int) - 1)) x = x := by unfold dropL; simp only [e1]; simp
    rw [a]
    unfold dropL
    have e2 : (x.tag == (k : Int) - 1) = decide (x.tag < ((k + 1 : Nat) : Int) - 1) := by
      rw [Bool.eq_iff_iff]; simp; omega
    simp only [e2]
end Go.Proofs.Ytcaaficjcghheab
