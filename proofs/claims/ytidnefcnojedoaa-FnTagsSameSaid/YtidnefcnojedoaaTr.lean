/- Slices of owners, cut. -/
import Derived.Test.YtidnefcnojedoaaTg
import Derived.Test.YtidnefcnojedoaaTh
import Derived.Deep.RegionHeld3
namespace Go.Proofs.Ytidnefcnojedoaa
open Go.ChangeShapes Go.WideShapes Go.ChangeAt Go.RowKit
open Rec (sz cs)
set_option linter.unusedVariables false
set_option maxRecDepth 100000

/-- The rest of a slice behind place k. -/
theorem Rd.rest_ {w : World} {b o k : Nat} {xs : List OwnD} (h : Rd w (some ⟨b, o, none⟩) xs) : Rd w (some ⟨b, o + (k + 1) * 2, none⟩) (xs.drop (k + 1)) := by
  intro hn
  rw [List.length_drop] at hn
  obtain ⟨b', o', e, hb, hc⟩ := h (by omega)
  injection e with e
  injection e with e1 e2
  subst e1 e2
  refine ⟨b, _, rfl, hb, fun m u hu => ?_⟩
  rw [flat_drop, List.getElem?_drop] at hu
  have := hc _ u hu
  rw [Nat.add_assoc]
  exact this
theorem Rd.rest_nil {w : World} {A : Option Addr} {k : Nat} {xs : List OwnD} (h : xs.length ≤ k + 1) : Rd w A (xs.drop (k + 1)) := by
  rw [List.drop_of_length_le h]; exact Rd.nil _ _
end Go.Proofs.Ytidnefcnojedoaa
