/- slices.Repeat of a slice of one element; copying rows of records. -/
import Derived.Test.YtihlaecbdlgbiaaDoorMi
import Derived.Test.YtihlaecbdlgbiaaDoorMf
import Derived.Test.YtihlaecbdlgbiaaDoorAp
import Derived.Laws.CopyRow
import Derived.Deep.RegionHeld3
namespace Go.Proofs.YtihlaecbdlgbiaaDoor
open Go.ChangeShapes Go.WideShapes Go.ChangeAt Go.RowKit
open Rec (sz cs)
set_option linter.unusedVariables false
set_option maxRecDepth 100000

theorem run_copy_rec {P : Program} (w : World) (dT sT ty elem : TypeId) (g o dLen dCap : Nat) (a : Addr) (sLen sCap : Nat) (cur : Array Value) (t : TypeId) (l : List Value) (k n : Nat)
    (hu : P.underlying dT = some (.slice elem)) (hs : (P.info? elem).map (·.size) = some k)
    (hg : w.heap[g]? = some (.cells cur t (0, 0))) (hn : n = Nat.min sLen dLen) (hk : l.length = n * k)
    (hsrc : ∀ j v, l[j]? = some v → w.cell? (a.add j) = some v) (hfit : o + l.length ≤ cur.size) (h1 : ∀ v ∈ l, v.oneCell' = true) :
    (Builtin.copy_ #[dT, sT] ty #[.slice (some ⟨g, o, none⟩) dLen dCap, .slice (some a) sLen sCap]).run P w =
      .ok (goInt n) (w.setRow g (cur.toList.take o ++ l ++ cur.toList.drop (o + l.length)).toArray) := by
  have hl := run_loadCells_list (P := P) w a l hsrc
  have hst := run_storeCells_at P g o t l 0 cur w hg (by simpa using hfit) h1
  cases hq : P.info? elem with
  | none => simp [hq] at hs
  | some i =>
    have hi : i.size = k := by simpa [hq] using hs
    rw [hk] at hl
    simp [Builtin.copy_, run_underlying hu, Builtin.lenOf, Builtin.firstCells, sizeOf, typeInfo, hq, hi, ← hn, hl, hst]

/-- A row's head is copied behind its first m records. -/
theorem copied {α : Type} [Rec α] {P : Program} {w : World} {E g : Nat} {zs : List α} (hb : Bk E w g zs []) (dT sT ty : TypeId) (hu : P.underlying dT = some (.slice E)) (hs : (P.info? E).map (·.size) = some (sz α))
    (a : Addr) (xs : List α) (hx : ∀ j u, (flat xs)[j]? = some u → w.cell? (a.add j) = some u) (m p dLen dCap sLen sCap : Nat) (hp : p = Nat.min sLen dLen) (hpl : xs.length = p) (hm : m + p ≤ zs.length) :
    ∃ w', (Builtin.copy_ #[dT, sT] ty #[.slice (some ⟨g, m * sz α, none⟩) dLen dCap, .slice (some a) sLen sCap]).run P w = .ok (goInt p) w' ∧ Bk E w' g (zs.take m ++ xs ++ zs.drop (m + p)) [] ∧ w.grownBy w' (some g) := by
  have hg : w.heap[g]? = some (.cells (flat zs).toArray E (0, 0)) := by have := hb; unfold Bk Blk at this; simpa using this
  have hfl : (flat xs).length = p * sz α := by rw [flat_length, hpl]
  refine ⟨_, run_copy_rec w dT sT ty E g (m * sz α) dLen dCap a sLen sCap (flat zs).toArray E (flat xs) (sz α) p hu hs hg hp hfl hx ?_ (flat_one xs), ?_, ?_⟩
  · simp only [List.size_toArray]
    rw [hfl, flat_length, ← Nat.add_mul]
    exact Nat.mul_le_mul_right _ hm
  · have h2 := setRow_heap w g (flat zs).toArray ((flat zs).toArray.toList.take (m * sz α) ++ flat xs ++ (flat zs).toArray.toList.drop (m * sz α + (flat xs).length)).toArray E (0, 0) hg
    unfold Bk Blk
    rw [h2]
    simp only [List.append_nil]
    congr 2
    rw [flat_append, flat_append, flat_take, flat_drop, hfl, Nat.add_mul]
  · exact ⟨rfl, rfl, rfl, by simp [World.setRow], fun i hi hn => setRow_other w g i _ (fun e => hn (by rw [e]))⟩

theorem step_copied {P : Program} {w : World} {ops : Array Oper} {o : Oper} {a : Act} {K : Act → World → Prop} {Q : Exit → Act → World → Prop} {X : Prop} (hw : Region.wanted o (yielded ops a.tmps) = true) (d s : Operand) (dT sT : TypeId)
    (ho : o.op = .call { callee := .builtin .copy, args := #[d, s], argTypes := #[dT, sT] }) (dv sv : Value) (hd : a.eval d = dv) (hs : a.eval s = sv) {p : Nat} {w' : World} (hr : (Builtin.copy_ #[dT, sT] o.type #[dv, sv]).run P w = .ok (goInt p) w')
    (h : K (a.put o.dst (goInt p)) w') : if Region.wanted o (yielded ops a.tmps) = true then Oper.wp P o a w K Q else X := by
  rw [if_pos hw]
  unfold Oper.wp
  simp [execOp, ho, resolve, invoke, builtin, hd, hs, hr, Result.andThen]
  exact h
theorem wpList_copied {P : Program} {w : World} {ops : Array Oper} {rest : List Oper} {o : Oper} {a : Act} {Q : Exit → Act → World → Prop} (hgd : o.guard = none) (d s : Operand) (dT sT : TypeId)
    (ho : o.op = .call { callee := .builtin .copy, args := #[d, s], argTypes := #[dT, sT] }) (dv sv : Value) (hd : a.eval d = dv) (hs : a.eval s = sv) {p : Nat} {w' : World} (hr : (Builtin.copy_ #[dT, sT] o.type #[dv, sv]).run P w = .ok (goInt p) w')
    (h : wpList P ops Q rest (a.put o.dst (goInt p)) w') : wpList P ops Q (o :: rest) a w := by
  refine wpList_plain hgd fun K hK => ?_
  unfold Oper.wp
  simp [execOp, ho, resolve, invoke, builtin, hd, hs, hr, Result.andThen]
  exact hK _ _ h

end Go.Proofs.YtihlaecbdlgbiaaDoor
