/- Plain: what dropping a page does. -/
import Derived.Test.YtcaaficjcghheabLg
namespace Go.Proofs.Ytcaaficjcghheab
open Go.ChangeShapes Go.WideShapes Go.ChangeAt Go.RowKit
set_option linter.unusedVariables false

structure Dropped (t : CacheD) (tag page : Int) (u : CacheD) (k : Nat) (x : LineD) : Prop where
  ct : CV t
  tb : tagB tag = true
  xk : t.lines[k]? = some x
  xf : fitsB x tag page = true
  fl : findLine t tag page = ((k : Int), true)
  ul : u = ⟨t.lines.set k noLine, t.hand⟩
  cu : CV u

theorem drop_ok {t : CacheD} {tag page : Int} {u : CacheD} (h : dropPage t tag page = (u, true)) : ∃ (k : Nat) (x : LineD), Dropped t tag page u k x := by
  unfold dropPage at h
  split at h
  · rename_i e
    obtain ⟨k, x, e1, hx, hf, -, hv, htb, hpb⟩ := findLine_at t tag page e
    injection h with h1 h2
    have hcv := (cv_iff t).1 hv
    rw [e1, Int.toNat_natCast] at h1
    have hkl := getElem?_lt hx
    refine ⟨k, x, hcv, htb, hx, hf, Prod.ext e1 e, h1.symm, ?_⟩
    rw [← h1]
    exact CV.set hcv hcv.h0 hcv.h1 lineV_noLine (fun j y _ _ => clash_no' y) ⟨k, noLine, List.getElem?_set_self hkl, rfl⟩
  · injection h with h1 h2
    cases h2
section
variable {t : CacheD} {tag page : Int} {u : CacheD} {k : Nat} {x : LineD}
theorem Dropped.kl (h : Dropped t tag page u k x) : k < t.lines.length := getElem?_lt h.xk
theorem Dropped.at_ (h : Dropped t tag page u k x) : u.lines[k]? = some noLine := by rw [h.ul]; exact List.getElem?_set_self h.kl
theorem Dropped.xv (h : Dropped t tag page u k x) : x.valid = true := by
  have := h.xf
  unfold fitsB at this
  simp only [Bool.and_eq_true] at this
  exact this.1
/-- A line that is left and fits like x clashed with x. -/
theorem Dropped.apart (h : Dropped t tag page u k x) {j : Nat} {y : LineD} (hy : u.lines[j]? = some y) : y = noLine ∨ clashB x y = false := by
  rw [h.ul] at hy
  rcases get_set_cases hy with ⟨_, rfl, _⟩ | ⟨hj, hy⟩
  · exact .inl rfl
  · exact .inr (h.ct.ap k j x y (fun e => hj e.symm) h.xk hy)
theorem fits_noLine (tag page : Int) : fitsB noLine tag page = false := by unfold fitsB; simp [noLine]
theorem Dropped.gone (h : Dropped t tag page u k x) : findLine u tag page = (0, false) := by
  refine findLine_none fun j y hy => ?_
  rcases h.apart hy with rfl | hc
  · exact fits_noLine _ _
  · cases hf : fitsB y tag page
    · rfl
    · rw [fits_clash h.xf hf] at hc; cases hc
/-- The line that is filled next is free, and lies no later. -/
theorem Dropped.victim (h : Dropped t tag page u k x) : ∃ (v : Nat) (y : LineD), victimOf u = ((v : Int), true) ∧ v ≤ k ∧ u.lines[v]? = some y ∧ y.valid = false := by
  obtain ⟨v, y, hva, hy, -, hc⟩ := victim_spec h.cu
  rw [victimOf_eq h.cu, hva]
  rcases hc with ⟨h1, h2⟩ | h1
  · refine ⟨v, y, rfl, ?_, hy, h1⟩
    by_cases e : k < v
    · have := h2 k noLine e h.at_; cases this
    · omega
  · have := h1 k noLine h.at_; cases this
theorem clash_wired (x y : LineD) (b : Bool) : clashB { x with wired := b } y = clashB x y := rfl
theorem lineV_wired {x : LineD} (h : lineV x = true) (hv : x.valid = true) (b : Bool) : lineV { x with wired := b } = true := by
  unfold lineV at h ⊢
  simp only [hv, if_true] at h ⊢
  exact h
/-- The dropped page goes in again. -/
theorem Dropped.refill (h : Dropped t tag page u k x) : ∃ (a : CacheD) (v : Nat), fillLine u { x with wired := false } = (a, (v : Int), true) ∧ findLine a tag page = ((v : Int), true) := by
  obtain ⟨v, y, hva, hy, hyw, -⟩ := victim_spec h.cu
  have hvl := getElem?_lt hy
  have hlv := lineV_wired (h.ct.ok k x h.xk) h.xv false
  have hpl : placeOf u.lines x.tag x.page < 0 := by
    rw [place_none]
    · omega
    · intro j z hz
      rcases h.apart hz with rfl | hc
      · exact fits_noLine _ _
      · cases hf : fitsB z x.tag x.page
        · rfl
        · have hx : fitsB x x.tag x.page = true := by unfold fitsB; rw [h.xv]; simp
          rw [fits_clash hx hf] at hc; cases hc
  have hfo : fillOut u { x with wired := false } = ⟨u.lines.set v { x with wired := false }, if y.valid then ((v : Int) + 1) % (u.lines.length : Int) else u.hand⟩ := by
    unfold fillOut; rw [hva, Int.toNat_natCast, getD_of hy]
  have hcv : CV (fillOut u { x with wired := false }) := by
    rw [hfo]
    have hl0 : (0 : Int) < (u.lines.length : Int) := by have := h.cu.n1; omega
    refine CV.set h.cu ?_ ?_ hlv (fun j z _ hz => ?_) ⟨v, _, List.getElem?_set_self hvl, rfl⟩
    · split
      · exact Int.emod_nonneg _ (by omega)
      · exact h.cu.h0
    · split
      · exact Int.emod_lt_of_pos _ hl0
      · exact h.cu.h1
    · rw [clash_wired]
      rcases h.apart hz with rfl | hc
      · exact clash_no _
      · exact hc
  refine ⟨fillOut u { x with wired := false }, v, ?_, ?_⟩
  · unfold fillLine
    have a : decide (placeOf u.lines ({ x with wired := false } : LineD).tag ({ x with wired := false } : LineD).page < 0) = true := decide_eq_true hpl
    rw [(cv_iff u).2 h.cu, hlv, a, (cv_iff _).2 hcv, hva]
    have : ({ x with wired := false } : LineD).valid = true := h.xv
    rw [this]
    rfl
  · refine findLine_found hcv h.tb (x := { x with wired := false }) ?_ h.xf
    rw [hfo]
    exact List.getElem?_set_self hvl
end
end Go.Proofs.Ytcaaficjcghheab
