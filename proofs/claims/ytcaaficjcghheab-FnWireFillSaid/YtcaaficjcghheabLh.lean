/- Plain: what wiring a line does. -/
import Derived.Test.YtcaaficjcghheabPl
namespace Go.Proofs.Ytcaaficjcghheab
open Go.ChangeShapes Go.WideShapes Go.ChangeAt Go.RowKit
set_option linter.unusedVariables false

structure Wired (t : CacheD) (k : Nat) (b : Bool) (u : CacheD) (x : LineD) : Prop where
  ct : CV t
  xk : t.lines[k]? = some x
  xv : x.valid = true
  cu : CV u
  ul : u = ⟨t.lines.set k { x with wired := b }, t.hand⟩

theorem wire_ok {t : CacheD} {p : Int} {b : Bool} {u : CacheD} (h : wireLine t p b = (u, true)) : ∃ (k : Nat) (x : LineD), p = (k : Int) ∧ Wired t k b u x := by
  unfold wireLine at h
  split at h
  · rename_i e
    obtain ⟨e1, e2, e3, e4⟩ := e
    have hk := inB_true.1 e2
    injection h with h1 h2
    obtain ⟨k, rfl⟩ := Int.eq_ofNat_of_zero_le hk.1
    rw [Int.toNat_natCast] at h1 e3 e4
    have hkn : k < t.lines.length := by omega
    have hx := List.getElem?_eq_getElem hkn
    have hgd := getD_of (d := noLine) hx
    rw [hgd] at e3
    refine ⟨k, t.lines[k], rfl, (cv_iff t).1 e1, hx, e3, ?_, ?_⟩
    · rw [← h1]; exact (cv_iff _).1 e4
    · rw [← h1]; unfold wireOut; rw [hgd]
  · injection h with h1 h2
    cases h2
theorem Wired.kl {t : CacheD} {k : Nat} {b : Bool} {u : CacheD} {x : LineD} (h : Wired t k b u x) : k < t.lines.length := getElem?_lt h.xk
theorem Wired.at_ {t : CacheD} {k : Nat} {b : Bool} {u : CacheD} {x : LineD} (h : Wired t k b u x) : u.lines[k]? = some { x with wired := b } := by
  rw [h.ul]; exact List.getElem?_set_self h.kl
theorem Wired.back {t : CacheD} {k : Nat} {b : Bool} {u : CacheD} {x : LineD} (h : Wired t k b u x) : wireLine u (k : Int) x.wired = (t, true) := by
  have e : wireOut u k x.wired = t := by
    unfold wireOut
    rw [getD_of h.at_, h.ul]
    obtain ⟨xs, hd⟩ := t
    congr 1
    refine List.ext_getElem? fun i => ?_
    by_cases hi : i = k
    · subst hi
      have hk := h.kl
      rw [List.set_set, List.getElem?_set_self hk]
      exact h.xk.symm
    · rw [List.set_set, List.getElem?_set_ne (fun q => hi q.symm)]
  unfold wireLine
  rw [Int.toNat_natCast, e, getD_of h.at_]
  rw [if_pos]
  refine ⟨(cv_iff u).2 h.cu, inB_true.2 ⟨by omega, ?_⟩, h.xv, (cv_iff t).2 h.ct⟩
  have := getElem?_lt h.at_
  omega
/-- What is wired is no victim. -/
theorem Wired.victim {t : CacheD} {k : Nat} {u : CacheD} {x : LineD} (h : Wired t k true u x) : victimAt u ≠ (k : Int) := by
  obtain ⟨v, y, hva, hy, hyw, -⟩ := victim_spec h.cu
  rw [hva]
  intro e
  have e : v = k := by omega
  subst e
  rw [h.at_] at hy
  injection hy with hy
  rw [← hy] at hyw
  cases hyw
end Go.Proofs.Ytcaaficjcghheab
