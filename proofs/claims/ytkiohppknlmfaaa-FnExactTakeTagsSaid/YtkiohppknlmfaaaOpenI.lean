/- Opening an argument that is a slice of numbers. -/
import Derived.Test.YtkiohppknlmfaaaOpen
namespace Go.Proofs.Ytkiohppknlmfaaa
open Go.ChangeShapes Go.WideShapes Go.ChangeAt Go.RowKit
open Rec (sz cs)
set_option linter.unusedVariables false
section
variable {H : Type} {enc : TypeId × Value → H} {w : World} {base b0 : Nat} {spare : Nat → Bool} {held : Bool} {r : Reach}
theorem open_IntS {v : Value} {d : DataW H} {p : List MemPlace} (hv : Value.okWide Try.prog w r b0 38 v) (h : DataW.Trod enc Try.prog w base spare held 38 v d p) :
    ∃ (A : Option Addr) (c : Nat) (xs : List Int), v = .slice A xs.length c ∧ Rd w A xs ∧ xs.length ≤ maxLen := by
  obtain ⟨a0, len, cap, rfl⟩ := okWide_slice Try.underlying38 hv
  obtain ⟨fuel, hf⟩ := h
  rcases open_ints Try.underlying38 Try.underlying3 (by kernel_rfl) hf with ⟨hcs, _⟩ | ⟨x, l, c, zs, hcs, _, hl, hm, hz, _, hcell, hwz⟩
  · simp [Value.cells] at hcs
    obtain ⟨rfl, rfl, rfl⟩ := hcs
    exact ⟨none, 0, [], rfl, Rd.nil _ _, Nat.zero_le _⟩
  · simp [Value.cells] at hcs
    obtain ⟨rfl, rfl, rfl⟩ := hcs
    have hzl : len ≤ zs.length := by rw [hz]; split <;> omega
    obtain ⟨xs, hx, hr⟩ := rd_build (α := Int) (w := w) x len (fun i hi => ⟨zs.getD i 0, fun j u hu => by
      match j, hu with
      | 0, hu =>
        simp [cs] at hu
        subst hu
        have := hcell i (by omega)
        show w.cell? (x.add (i * 1 + 0)) = _
        rw [Nat.mul_one, Nat.add_zero]
        simpa using this
      | j + 1, hu => simp [cs] at hu⟩)
    exact ⟨some x, cap, xs, by rw [hx], hr, by omega⟩
end
end Go.Proofs.Ytkiohppknlmfaaa
