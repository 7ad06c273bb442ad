/- Opening an argument that is a slice of bytes. -/
import Derived.Test.YtidnefcnojedoaaOpen
import Derived.Test.YtidnefcnojedoaaRd
namespace Go.Proofs.Ytidnefcnojedoaa
open Go.ChangeShapes Go.WideShapes Go.ChangeAt Go.RowKit
open Rec (sz cs)
set_option linter.unusedVariables false
set_option maxRecDepth 100000
section
variable {H : Type} {enc : TypeId × Value → H} {w : World} {base b0 : Nat} {spare : Nat → Bool} {held : Bool} {r : Reach}
theorem byte_wf {n : Int} (h : (Lit.int .u8 n).wf = true) : 0 ≤ n ∧ n ≤ 255 := by
  have := bounds_u8 h
  omega
theorem open_bytes {v : Value} {d : DataW H} {p : List MemPlace} (hv : Value.okWide Try.prog w r b0 22 v) (h : DataW.Trod enc Try.prog w base spare held 22 v d p) :
    ∃ (A : Option Addr) (n c : Nat) (xs : List ByteD), v = .slice A n c ∧ Rd w A xs ∧ (Bytes xs ∧ xs.length = n ∧ n ≤ c ∧ c ≤ maxLen) := by
  obtain ⟨a0, len, cap, rfl⟩ := okWide_slice Try.underlying22 hv
  obtain ⟨fuel, hf⟩ := h
  rcases open_ints Try.underlying22 Try.underlying5 (by kernel_rfl) hf with ⟨hcs, _⟩ | ⟨x, l, c, zs, hcs, _, hl, hm, hz, _, hcell, hwz⟩
  · simp [Value.cells] at hcs
    obtain ⟨rfl, rfl, rfl⟩ := hcs
    exact ⟨none, 0, 0, [], rfl, Rd.nil _ _, by intro b hb; simp at hb, rfl, Nat.le_refl _, Nat.zero_le _⟩
  · simp [Value.cells] at hcs
    obtain ⟨rfl, rfl, rfl⟩ := hcs
    have hzl : len ≤ zs.length := by rw [hz]; split <;> omega
    obtain ⟨xs, hx, hr⟩ := rd_build (α := ByteD) (w := w) x len (fun i hi => ⟨⟨zs.getD i 0⟩, fun j u hu => by
      match j, hu with
      | 0, hu =>
        simp [cs] at hu
        subst hu
        have := hcell i (by omega)
        show w.cell? (x.add (i * 1 + 0)) = _
        rw [Nat.mul_one, Nat.add_zero]
        exact this
      | j + 1, hu => simp [cs] at hu⟩)
    refine ⟨some x, len, cap, xs, rfl, hr, ?_, hx, hl, hm⟩
    intro b hb
    obtain ⟨i, hi, rfl⟩ := List.getElem_of_mem hb
    obtain ⟨b', o', y, e, _, hy, hc⟩ := Rd.byte hr (k := i) hi
    injection e with e
    subst e
    have h2 := hcell i (by omega)
    have ha : (⟨b', o', none⟩ : Addr).add i = ⟨b', o' + i, none⟩ := by unfold Addr.add; split <;> simp_all
    rw [ha, hc] at h2
    injection h2 with h2
    injection h2 with _ h2
    rw [List.getElem?_eq_getElem hi] at hy
    injection hy with hy
    rw [hy, h2]
    have hmem : zs.getD i 0 ∈ zs := by
      rw [List.getD_eq_getElem?_getD, List.getElem?_eq_getElem (by omega)]
      exact List.getElem_mem _
    exact byte_wf (hwz _ hmem)
end
end Go.Proofs.Ytidnefcnojedoaa
