/- A set of keys kept in a map of the call's own. -/
import Derived.Test.YtihlaecbdlgbiaaDoorVk
import Derived.Test.YtihlaecbdlgbiaaDoorTm
import Derived.Test.YtihlaecbdlgbiaaDoorOpen
import Derived.DeepKeys4
import Derived.MapViews
import Derived.Maps.OwnSet
namespace Go.Proofs.YtihlaecbdlgbiaaDoor
open Go.ChangeShapes Go.WideShapes Go.ChangeAt Go.RowKit
open Rec (sz cs)
set_option linter.unusedVariables false
set_option maxRecDepth 100000
open Go.Maps (Keyed)

theorem rowKey : (70 : TypeId) < Tryd.prog.types.size := of_decide_eq_true (by kernel_rfl)
theorem wideKey : (match Tryd.prog.underlying 70 with | some (.array _ _) | some (.struct _) => true | _ => false) = true := by rw [Tryd.underlying70]
theorem kKey : Keyed Tryd.prog 70 := Keyed.of_law (deep_law_laid laidOutRow (m := 2) (by omega) rowKey (by kernel_rfl) wideKey)
theorem cellsKey : Tryd.prog.cellsOf 70 = 2 := by kernel_rfl
theorem cellsInt : Tryd.prog.cellsOf 3 = 1 := by kernel_rfl
theorem typesKey : Tryd.prog.types.size + 1 = (Tryd.prog.types.size - 1) + 1 + 1 := by kernel_rfl
theorem keyTypeKey : Tryd.prog.keyType 70 = true := by kernel_rfl
theorem litsInt (d : Nat) (a : Int) (h : (Lit.int .i64 a).wf = true) : Tryd.prog.keyLits (d + 1) 3 [.int .i64 a] = some [.int .i64 a] := by
  unfold Program.keyLits
  rw [Tryd.underlying3]
  simp [h]
theorem litsKey (d : Nat) (a b : Int) (h1 : (Lit.int .i64 a).wf = true) (h2 : (Lit.int .i64 b).wf = true) : Tryd.prog.keyLits (d + 1 + 1) 70 [.int .i64 a, .int .i64 b] = some [.int .i64 a, .int .i64 b] := by
  unfold Program.keyLits
  rw [Tryd.underlying70]
  simp [cellsKey, cellsInt, litsInt d a h1, litsInt d b h2]
theorem keyOf_key (x : KeyD) (h1 : (Lit.int .i64 x.space).wf = true) (h2 : (Lit.int .i64 x.page).wf = true) : ∃ l, keyOf Tryd.prog 70 (.agg #[.int .i64 x.space, .int .i64 x.page]) = some l := by
  unfold keyOf
  rw [Tryd.underlying70]
  have hl := litsKey (Tryd.prog.types.size - 1) x.space x.page h1 h2
  rw [← typesKey] at hl
  have hf : (Value.agg #[.int .i64 x.space, .int .i64 x.page]).formed Tryd.prog 70 = true := by simp [Value.formed, Tryd.underlying70, cellsKey]
  refine ⟨.string (keyBytes [.int .i64 x.space, .int .i64 x.page]), ?_⟩
  show (if (Tryd.prog.keyType 70 && (Value.agg #[.int .i64 x.space, .int .i64 x.page]).formed Tryd.prog 70) = true then (Tryd.prog.keyLits (Tryd.prog.types.size + 1) 70 [.int .i64 x.space, .int .i64 x.page]).map (fun ls => Lit.string (keyBytes ls)) else none) = _
  rw [hl, hf, keyTypeKey]
  rfl

/-- A map of the call's own that holds true just at the keys of S (no key twice in S). -/
def HasKeys (w : World) (b n : Nat) (S : List KeyD) : Prop := ∃ D : DataW Unit, w.ownsMap Tryd.prog 70 (plainElem Tryd.prog 4) b n D ∧ Maps.IsMap D ∧ Maps.size D = S.length ∧ ∀ (x : KeyD) (l : Lit), keyOf Tryd.prog 70 (.agg #[.int .i64 x.space, .int .i64 x.page]) = some l → D.atKey l (.lit (.bool false)) = .lit (.bool (decide (x ∈ S))) ∧ Maps.has D l = decide (x ∈ S)
theorem HasKeys.made (w : World) : HasKeys (w.alloc (.map #[] 0)) w.heap.size 0 [] :=
  ⟨_, World.ownsMap_made w _ _ _, Maps.isMap_empty, rfl, fun x l h => by simp [DataW.atKey, Maps.has]⟩
theorem HasKeys.kept {w w' : World} {b n : Nat} {S : List KeyD} {row : Option Nat} (h : HasKeys w b n S) (hg : w.grownBy w' row) (hne : some b ≠ row) : HasKeys w' b n S := by
  obtain ⟨D, h1, h2⟩ := h
  exact ⟨D, h1.kept hg hne, h2⟩
theorem HasKeys.ex {w w' : World} {b n : Nat} {S : List KeyD} (h : HasKeys w b n S) (k : Ex w w') : HasKeys w' b n S :=
  h.kept (grown_ex (grown_refl w none) k) (by simp)
theorem HasKeys.lt {w : World} {b n : Nat} {S : List KeyD} (h : HasKeys w b n S) : b < w.heap.size := by
  obtain ⟨D, h1, _⟩ := h
  exact h1.lt
theorem HasKeys.look {w : World} {b n : Nat} {S : List KeyD} (h : HasKeys w b n S) (x : KeyD) {l : Lit} (hx : keyOf Tryd.prog 70 (.agg #[.int .i64 x.space, .int .i64 x.page]) = some l) :
    (Instr.lookup 109 (.map (some b)) (.agg #[.int .i64 x.space, .int .i64 x.page]) false).run Tryd.prog w = .ok (.bool (decide (x ∈ S))) w := by
  obtain ⟨D, h1, _, _, h2⟩ := h
  obtain ⟨v, ps, hrun, hv⟩ := h1.lookup kKey Tryd.underlying109 (z := .bool false) (by kernel_rfl) (plainElem_bool Tryd.underlying4 false) hx
  rw [(h2 x l hx).1] at hv
  rw [hrun]
  unfold plainElem at hv
  rw [Tryd.underlying4] at hv
  cases v <;> simp at hv
  rw [hv.1]
theorem HasKeys.put {w : World} {b n : Nat} {S : List KeyD} (h : HasKeys w b n S) (hn : n < maxLen) (x : KeyD) (hns : ¬ x ∈ S) {l : Lit} (hx : keyOf Tryd.prog 70 (.agg #[.int .i64 x.space, .int .i64 x.page]) = some l) :
    ∃ w', (Instr.mapUpdate 109 (.map (some b)) (.agg #[.int .i64 x.space, .int .i64 x.page]) (.bool true)).run Tryd.prog w = .ok () w' ∧ HasKeys w' b (n + 1) (x :: S) ∧ w.grownBy w' (some b) := by
  obtain ⟨D, h1, hm, hz, h2⟩ := h
  obtain ⟨w', hrun, h3, h4⟩ := h1.update kKey Tryd.underlying109 hn hx (plainElem_bool Tryd.underlying4 true)
  refine ⟨w', hrun, ⟨_, h3, hm.put _ _, ?_, fun y l' hy => ?_⟩, h4⟩
  · rw [Maps.size_put (h1.tidy kKey), (h2 x l hx).2, hz]
    simp [hns]
  · by_cases e : y = x
    · subst e
      have e2 : l' = l := by rw [hx] at hy; injection hy with hy; exact hy.symm
      subst e2
      rw [Maps.atKey_put_same hm (kKey.key hx), Maps.has_put_same hm (kKey.key hx)]
      simp
    · have hl : l' ≠ l := by
        intro hl
        subst hl
        have := kKey.inj hx hy
        apply e
        obtain ⟨a1, a2⟩ := x
        obtain ⟨b1, b2⟩ := y
        simp at this
        rw [this.1, this.2]
      rw [Maps.atKey_put_other hl, Maps.has_put_other hl, (h2 y l' hy).1, (h2 y l' hy).2]
      simp [e]
end Go.Proofs.YtihlaecbdlgbiaaDoor
