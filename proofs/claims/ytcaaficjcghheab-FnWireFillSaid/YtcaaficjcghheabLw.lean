/- Plain: filling as many lines as there are beside a wired one. -/
import Derived.Test.YtcaaficjcghheabLg
import Derived.Test.YtcaaficjcghheabLh
import Derived.Test.YtcaaficjcghheabDb
namespace Go.Proofs.Ytcaaficjcghheab
open Go.ChangeShapes Go.WideShapes Go.ChangeAt Go.RowKit
set_option linter.unusedVariables false

def lineF (i : Nat) : LineD := ⟨true, 7, 50 + (i : Int), 0, 1, false⟩
structure Kept (t : CacheD) (k : Nat) (x : LineD) (n i : Nat) : Prop where
  cv : CV t
  xk : t.lines[k]? = some x
  xw : x.wired = true
  ln : t.lines.length = n
  pg : ∀ (j : Nat) (y : LineD), t.lines[j]? = some y → Apart y ∨ (50 ≤ y.page ∧ y.page < 50 + (i : Int))

theorem kept_start {t : CacheD} {k : Nat} {u : CacheD} {x : LineD} (h : Wired t k true u x) (hf : Few t) : Kept u k { x with wired := true } t.lines.length 0 := by
  refine ⟨h.cu, h.at_, rfl, by rw [h.ul]; simp, fun j y hy => .inl ?_⟩
  rw [h.ul] at hy
  rcases get_set_cases hy with ⟨_, rfl, _⟩ | ⟨_, hy⟩
  · have q := hf.2 k x h.xk
    exact q
  · exact hf.2 j y hy
theorem kept_step {t : CacheD} {k : Nat} {x : LineD} {n i : Nat} (h : Kept t k x n i) (hi : i < n) : ∃ (u : CacheD) (v : Nat), fillLine t (lineF i) = (u, (v : Int), true) ∧ v ≠ k ∧ Kept u k x n (i + 1) := by
  have hn8 : n ≤ 8 := by have := h.cv.n8; rw [h.ln] at this; exact this
  obtain ⟨v, y, hva, hy, hyw, hc⟩ := victim_spec h.cv
  have hne : ∀ (j : Nat) (z : LineD), t.lines[j]? = some z → z.page ≠ 50 + (i : Int) := fun j z hz e => by
    rcases h.pg j z hz with q | q
    · unfold Apart at q; omega
    · omega
  have hnf : ∀ (j : Nat) (z : LineD), t.lines[j]? = some z → fitsB z 7 (50 + (i : Int)) = false := fun j z hz => by
    unfold fitsB
    have := hne j z hz
    have e : (z.page == 50 + (i : Int)) = false := by simpa using this
    rw [e]; simp
  have hlv : lineV (lineF i) = true := by
    unfold lineV lineF
    simp only [if_true]
    have a : tagB 7 = true := by decide
    have b : inB (50 + (i : Int)) 256 = true := inB_true.2 (by omega)
    have c : inB 0 16 = true := by decide
    have d : inB 1 8 = true := by decide
    rw [a, b, c, d]; rfl
  have hcl : ∀ (j : Nat) (z : LineD), j ≠ v → t.lines[j]? = some z → clashB (lineF i) z = false := fun j z _ hz => by
    unfold clashB lineF
    have := hne j z hz
    have e : ((50 + (i : Int)) == z.page) = false := by simp; omega
    simp only [e]; simp
  have hvl := getElem?_lt hy
  have hvk : v ≠ k := by
    rintro rfl
    have := h.xk
    rw [hy] at this
    injection this with this
    rw [this, h.xw] at hyw
    cases hyw
  have hfo : fillOut t (lineF i) = ⟨t.lines.set v (lineF i), if y.valid then ((v : Int) + 1) % (t.lines.length : Int) else t.hand⟩ := by
    unfold fillOut; rw [hva, Int.toNat_natCast, getD_of hy]
  have hcv : CV (fillOut t (lineF i)) := by
    rw [hfo]
    have hl0 : (0 : Int) < (t.lines.length : Int) := by have := h.cv.n1; omega
    refine CV.set h.cv ?_ ?_ hlv hcl ⟨v, lineF i, List.getElem?_set_self hvl, rfl⟩
    · split
      · exact Int.emod_nonneg _ (by omega)
      · exact h.cv.h0
    · split
      · exact Int.emod_lt_of_pos _ hl0
      · exact h.cv.h1
  refine ⟨fillOut t (lineF i), v, ?_, hvk, hcv, ?_, h.xw, ?_, ?_⟩
  · unfold fillLine
    have a : decide (placeOf t.lines (lineF i).tag (lineF i).page < 0) = true := by
      have : placeOf t.lines 7 (50 + (i : Int)) = -1 := place_none hnf
      show decide (placeOf t.lines 7 (50 + (i : Int)) < 0) = true
      rw [this]; rfl
    rw [(cv_iff t).2 h.cv, hlv, a, (cv_iff _).2 hcv, hva]
    rfl
  · rw [hfo]
    show (t.lines.set v (lineF i))[k]? = some x
    rw [List.getElem?_set_ne hvk]; exact h.xk
  · rw [hfo]; simp; exact h.ln
  · intro j z hz
    rw [hfo] at hz
    rcases get_set_cases hz with ⟨_, rfl, _⟩ | ⟨_, hz⟩
    · right; unfold lineF; simp only; omega
    · rcases h.pg j z hz with q | q
      · exact .inl q
      · right; omega
end Go.Proofs.Ytcaaficjcghheab
