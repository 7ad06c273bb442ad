/- What the door's rows give the walks: the listed variable reads as the program's text lays it. -/
import Derived.Test.YtihlaecbdlgbiaaDoorNt
import Derived.Test.YtihlaecbdlgbiaaDoorOpen
import Derived.LaidMore
import Derived.Stop.Joined
import Derived.OpenVars
namespace Go.Proofs.YtihlaecbdlgbiaaDoor
open Go.ChangeShapes Go.WideShapes Go.ChangeAt Go.WideMaps Go.WideElems Go.RowKit
open Rec (sz cs)
set_option linter.unusedVariables false
set_option maxRecDepth 100000

def laidL {H : Type} : List (String × DataW H) := [("loop.example/invertedpages/impl.free", Rows.laid_loop_example_invertedpages_impl_free)]
theorem gFree : Tryd.prog.globalNamed "loop.example/invertedpages/impl.free" = some 0 := by kernel_rfl
theorem tFree : (Tryd.prog.globals[0]?).map (·.type) = some 72 := by kernel_rfl

/-- The door's own heap meets the condition. -/
theorem door_met (os : Os) (args : Array Value) : laidMetH Tryd.prog laidL ((World.doorLaid Tryd.prog 14 os).forCall (fun _ _ => 0) ⟨#[], args, []⟩).memory :=
  laidMetH_of_parts3 (fuel := 8) (laidMet_of_run' 8 (by kernel_rfl) (by kernel_rfl)) (by kernel_rfl) (by kernel_rfl)

theorem fields_door {H : Type} {enc : TypeId × Value → H} {P : Program} {w : World} {base : Nat} {spare : Nat → Bool} {held : Bool} {t : TypeId} {fs : Array Field} {fuel : Nat} {cs : List Value} {x : DataW H × List MemPlace} (ht : P.underlying t = some (.struct fs)) (h : DataW.trod enc P w base spare held fuel t cs = some x) :
    ∃ xs : List (DataW H × List MemPlace), x.1 = .agg (xs.map (·.1)) ∧ cs.length = P.cellsOf t ∧ xs.length = fs.size ∧ ∃ n, ∀ (j : Nat) (f : Field), fs[j]? = some f → DataW.trod enc P w base spare held n f.type ((cs.drop f.offset).take (P.cellsOf f.type)) = xs[j]? := by
  obtain ⟨xs, n, _, e, hl, hlen, hf⟩ := DataW.trod_struct ht h
  exact ⟨xs, by rw [e], hl, hlen, n, hf⟩

theorem free_of_laid {W : World} (h : laidMetH Tryd.prog laidL W) : FreeV W := by
  rw [MakeChecks.laidMetH_plain _ _ _ (by kernel_rfl)] at h
  obtain ⟨ps, ⟨g0, t0, cs0, f0, p0, q0, hg0, ht0, hv0, hd0, _, _⟩, _, _⟩ := h
  obtain rfl := Option.some.inj (gFree.symm.trans hg0)
  obtain rfl := Option.some.inj (tFree.symm.trans ht0)
  obtain ⟨xs, hx, hl, hlen, n, hf⟩ := fields_door Tryd.underlying72 hd0
  have k1 : Tryd.prog.cellsOf 3 = 1 := by kernel_rfl
  have k2 : Tryd.prog.cellsOf 4 = 1 := by kernel_rfl
  have k3 : Tryd.prog.cellsOf 70 = 2 := by kernel_rfl
  have k4 : Tryd.prog.cellsOf 72 = 5 := by kernel_rfl
  rw [k4] at hl
  have hcell : ∀ j, W.cell? ⟨0, j, none⟩ = cs0[j]? := fun j => World.var?_cell hg0 hv0 j
  have hcl : ∀ j, cs0[j]? = cs0.toList[j]? := fun j => Array.getElem?_toList.symm
  match hcs : cs0.toList, hl, xs, hlen, hx, hf with
  | [v0, v1, v2, v3, v4], _, [x0, x1, x2, x3], _, hx, hf =>
    have h0 := hf 0 _ rfl
    have h1 := hf 1 _ rfl
    have h2 := hf 2 _ rfl
    have h3 := hf 3 _ rfl
    simp [k1, k2, k3] at h0 h1 h2 h3
    simp only [Rows.laid_loop_example_invertedpages_impl_free, List.map_cons, List.map_nil, DataW.agg.injEq, List.cons.injEq, and_true] at hx
    obtain ⟨e0, e1, e2, e3⟩ := hx
    obtain ⟨b0, c0, d0⟩ := DataW.trod_bool Tryd.underlying4 h0
    obtain ⟨n2, c2, d2, _⟩ := DataW.trod_int Tryd.underlying3 h2
    obtain ⟨n3, c3, d3, _⟩ := DataW.trod_int Tryd.underlying3 h3
    obtain ⟨ys, hy, hyl, hylen, m, hg⟩ := fields_door Tryd.underlying70 h1
    match ys, hylen, hy, hg with
    | [y0, y1], _, hy, hg =>
      have g0 := hg 0 _ rfl
      have g1 := hg 1 _ rfl
      simp [k1] at g0 g1
      obtain ⟨m0, c4, d4, _⟩ := DataW.trod_int Tryd.underlying3 g0
      obtain ⟨m1, c5, d5, _⟩ := DataW.trod_int Tryd.underlying3 g1
      rw [hy] at e1
      simp only [List.map_cons, List.map_nil, DataW.agg.injEq, List.cons.injEq, and_true] at e1
      rw [d0] at e0
      rw [d2] at e2
      rw [d3] at e3
      rw [d4, d5] at e1
      simp at e0 e1 e2 e3 c0 c2 c3 c4 c5
      have z0 : W.cell? ⟨0, 0, none⟩ = some (.bool false) := by rw [hcell, hcl, hcs]; simp_all
      refine ⟨block_lt_of_cell z0, z0, ?_, ?_, ?_, ?_⟩
      · rw [hcell, hcl, hcs]; first | (simp_all; done) | (simp_all; omega)
      · rw [hcell, hcl, hcs]; first | (simp_all; done) | (simp_all; omega)
      · rw [hcell, hcl, hcs]; first | (simp_all; done) | (simp_all; omega)
      · rw [hcell, hcl, hcs]; first | (simp_all; done) | (simp_all; omega)
end Go.Proofs.YtihlaecbdlgbiaaDoor
