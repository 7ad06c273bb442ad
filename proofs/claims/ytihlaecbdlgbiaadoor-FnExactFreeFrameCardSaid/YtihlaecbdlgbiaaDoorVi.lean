/- TableValid of the program. -/
import Derived.Test.YtihlaecbdlgbiaaDoorVs
import Derived.Test.YtihlaecbdlgbiaaDoorVm
import Derived.Test.YtihlaecbdlgbiaaDoorTv
namespace Go.Proofs.YtihlaecbdlgbiaaDoor
open Go.ChangeShapes Go.WideShapes Go.ChangeAt Go.RowKit
open Rec (sz cs)
set_option linter.unusedVariables false
set_option maxRecDepth 100000

theorem wpList_put_key (w : World) {ops : Array Oper} {rest : List Oper} {o : Oper} {a : Act} {Q : Exit → Act → World → Prop}
    (hg : o.guard = none) (m x v : Operand) (hop : o.op = Op.mapUpdate 109 m x v) (b n : Nat) (S : List KeyD) (hm : a.eval m = .map (some b)) (h : HasKeys w b n S) (hn : n < maxLen) (k : KeyD) (hns : ¬ k ∈ S) (hx : a.eval x = .agg #[.int .i64 k.space, .int .i64 k.page]) (hv : a.eval v = .bool true)
    {l : Lit} (hk : keyOf Tryd.prog 70 (.agg #[.int .i64 k.space, .int .i64 k.page]) = some l) (hK : ∀ w', HasKeys w' b (n + 1) (k :: S) → w.grownBy w' (some b) → wpList Tryd.prog ops Q rest (a.put o.dst undef) w') : wpList Tryd.prog ops Q (o :: rest) a w := by
  refine wpList_plain hg fun K' hK' => ?_
  obtain ⟨w', hrun, r1, r2⟩ := h.put hn k hns hk
  unfold Oper.wp
  simp [execOp, hop, hm, hx, hv, hrun, Result.andThen]
  exact hK' _ _ (hK w' r1 r2)

/-- The keys of the used ones among the first k frames. -/
def KeysUp (fs : List FrameD) (k : Nat) (S : List KeyD) : Prop := ∀ x, x ∈ S ↔ ∃ (j : Nat) (g : FrameD), j < k ∧ fs[j]? = some g ∧ g.used = true ∧ g.key = x
theorem keysUp_zero (fs : List FrameD) : KeysUp fs 0 [] := fun x => ⟨(fun h => by cases h), (fun ⟨j, g, h, _⟩ => by omega)⟩
theorem keysUp_no {fs : List FrameD} {k : Nat} {S : List KeyD} {f : FrameD} (h : KeysUp fs k S) (hf : fs[k]? = some f) (hu : f.used = false) : KeysUp fs (k + 1) S := by
  intro x
  rw [h x]
  constructor
  · rintro ⟨j, g, h1, h2⟩
    exact ⟨j, g, by omega, h2⟩
  · rintro ⟨j, g, h1, h2, h3, h4⟩
    by_cases e : j = k
    · subst e
      rw [hf] at h2
      injection h2 with h2
      rw [← h2, hu] at h3
      cases h3
    · exact ⟨j, g, by omega, h2, h3, h4⟩
theorem keysUp_yes {fs : List FrameD} {k : Nat} {S : List KeyD} {f : FrameD} (h : KeysUp fs k S) (hf : fs[k]? = some f) (hu : f.used = true) : KeysUp fs (k + 1) (f.key :: S) := by
  intro x
  rw [List.mem_cons, h x]
  constructor
  · rintro (rfl | ⟨j, g, h1, h2⟩)
    · exact ⟨k, f, by omega, hf, hu, rfl⟩
    · exact ⟨j, g, by omega, h2⟩
  · rintro ⟨j, g, h1, h2, h3, h4⟩
    by_cases e : j = k
    · subst e
      rw [hf] at h2
      injection h2 with h2
      exact .inl (by rw [← h4, ← h2])
    · exact .inr ⟨j, g, by omega, h2, h3, h4⟩
/-- What the program asks of a used frame. -/
theorem key_again {fs : List FrameD} {k : Nat} {S : List KeyD} {f : FrameD} (h : KeysUp fs k S) (hm : f.key ∈ S) (hu : f.used = true) : ¬ ∀ j g, j < k → fs[j]? = some g → f.used = true → g.used = true → g.key ≠ f.key := fun hn => by
  obtain ⟨j, g, h1, h2, h3, h4⟩ := (h f.key).1 hm
  exact hn j g h1 h2 hu h3 h4
theorem key_fresh {fs : List FrameD} {k : Nat} {S : List KeyD} {f : FrameD} (h : KeysUp fs k S) (hm : ¬ f.key ∈ S) : ∀ j g, j < k → fs[j]? = some g → f.used = true → g.used = true → g.key ≠ f.key :=
  fun j g h1 h2 _ h3 h4 => hm ((h f.key).2 ⟨j, g, h1, h2, h3, h4⟩)
end Go.Proofs.YtihlaecbdlgbiaaDoor
