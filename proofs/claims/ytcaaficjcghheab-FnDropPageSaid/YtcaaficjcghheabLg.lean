/- Plain: what filling a line in does. -/
import Derived.Test.YtcaaficjcghheabPl
import Derived.Test.YtcaaficjcghheabCt
namespace Go.Proofs.Ytcaaficjcghheab
open Go.ChangeShapes Go.WideShapes Go.ChangeAt Go.RowKit
set_option linter.unusedVariables false

structure Filled (t : CacheD) (x : LineD) (u : CacheD) (v : Nat) : Prop where
  ct : CV t
  xv : x.valid = true
  xl : lineV x = true
  pl : placeOf t.lines x.tag x.page < 0
  cu : CV u
  ul : u.lines = t.lines.set v x
  va : victimAt t = (v : Int)
  vl : v < t.lines.length
  vw : ∃ y, t.lines[v]? = some y ∧ y.wired = false

theorem fill_ok {t : CacheD} {x : LineD} {u : CacheD} {a : Int} (h : fillLine t x = (u, a, true)) : ∃ v : Nat, a = (v : Int) ∧ Filled t x u v := by
  unfold fillLine at h
  split at h
  · rename_i e
    simp only [Bool.and_eq_true, decide_eq_true_eq] at e
    obtain ⟨e1, e2, e3, e4, e5⟩ := e
    have hcv := (cv_iff t).1 e1
    obtain ⟨v, y, hva, hy, hyw, -⟩ := victim_spec hcv
    injection h with h1 h2
    injection h2 with h2 h3
    subst h1 h2
    refine ⟨v, hva, hcv, e2, e3, e4, (cv_iff _).1 e5, ?_, hva, getElem?_lt hy, y, hy, hyw⟩
    unfold fillOut
    rw [hva, Int.toNat_natCast]
  · injection h with h1 h2
    injection h2 with h2 h3
    cases h3
theorem Filled.at_ {t : CacheD} {x : LineD} {u : CacheD} {v : Nat} (h : Filled t x u v) : u.lines[v]? = some x := by
  rw [h.ul, List.getElem?_set_self h.vl]
theorem Filled.fits {t : CacheD} {x : LineD} {u : CacheD} {v : Nat} (h : Filled t x u v) : fitsB x x.tag x.page = true := by
  unfold fitsB; rw [h.xv]; simp
/-- What has a line is not filled in again. -/
theorem Filled.again {t : CacheD} {x : LineD} {u : CacheD} {v : Nat} (h : Filled t x u v) (y : LineD) (h1 : y.tag = x.tag) (h2 : y.page = x.page) : fillLine u y = (noCache, 0, false) := by
  unfold fillLine
  have : ¬ placeOf u.lines y.tag y.page < 0 := by
    rw [h1, h2, place_uniq h.cu h.at_ h.fits]; omega
  rw [decide_eq_false this]
  simp
theorem Filled.find {t : CacheD} {x : LineD} {u : CacheD} {v : Nat} (h : Filled t x u v) : findLine u x.tag x.page = ((v : Int), true) :=
  findLine_found h.cu (lineV_yes h.xl h.xv).1 h.at_ h.fits
theorem Filled.frame {t : CacheD} {x : LineD} {u : CacheD} {v : Nat} (h : Filled t x u v) : 0 ≤ x.frame ∧ x.frame < 16 := inB_true.1 (lineV_yes h.xl h.xv).2.2.1
theorem Filled.others {t : CacheD} {x : LineD} {u : CacheD} {v : Nat} (h : Filled t x u v) {i : Nat} (hi : i ≠ v) : u.lines[i]? = t.lines[i]? := by
  rw [h.ul, List.getElem?_set_ne (fun e => hi e.symm)]
end Go.Proofs.Ytcaaficjcghheab
