/- The reader of drawn bytes, carried over worlds. -/
import Derived.Test.YtidnefcnojedoaaRd
import Derived.Test.YtidnefcnojedoaaChg
namespace Go.Proofs.Ytidnefcnojedoaa
open Go.ChangeShapes Go.WideShapes Go.ChangeAt Go.RowKit
open Rec (sz cs)

theorem Rdr.chg {w w' : World} {g p lo hi : Nat} (h : Rdr w g p) (k : Chg lo hi w w') (h1 : g < lo ∨ hi ≤ lo) : Rdr w' g p := by
  obtain ⟨A, c, bs, a1, a2, a3, a4, a5, a6⟩ := h
  refine ⟨A, c, bs, a1.chg k (by omega), ?_, a3, a4, a5, a6⟩
  intro h0
  obtain ⟨b, o, e, hb, hc⟩ := a2 h0
  have := a6 h0 b o e
  exact ⟨b, o, e, Nat.lt_of_lt_of_le hb k.size, fun m u hu => (World.cell?_of_block (w := w) (a := ⟨b, o + m, none⟩) (k.block b hb (by omega))).trans (hc m u hu)⟩
theorem Rd.lits_at (w : World) (T : TypeId) (zs : List Int) {g : Nat} (hg : g = w.heap.size) : Rd (w.alloc (.cells (zs.map (Value.int .i64)).toArray T)) (some ⟨g, 0, none⟩) zs := by
  subst hg; exact Rd.lits _ _ _
end Go.Proofs.Ytidnefcnojedoaa
