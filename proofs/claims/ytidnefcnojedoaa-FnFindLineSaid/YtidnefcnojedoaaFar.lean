/- Six cells of another block are written. -/
import Derived.Test.YtidnefcnojedoaaChg
namespace Go.Proofs.Ytidnefcnojedoaa
open Go.ChangeShapes Go.WideShapes Go.ChangeAt Go.RowKit
open Rec (sz cs)
theorem Blk.far6 {w : World} {g b : Nat} {t : TypeId} {c : List Value} {u0 u1 u2 u3 u4 u5 : Value} (h : Blk w g t c) (hn : g ≠ b) :
    Blk ((((((w.setCell ⟨b, 0, none⟩ u0).setCell ⟨b, 1, none⟩ u1).setCell ⟨b, 2, none⟩ u2).setCell ⟨b, 3, none⟩ u3).setCell ⟨b, 4, none⟩ u4).setCell ⟨b, 5, none⟩ u5) g t c :=
  (((((h.far hn u0).far hn u1).far hn u2).far hn u3).far hn u4).far hn u5
theorem Chg.set6 {lo hi : Nat} {a w : World} {b : Nat} {u0 u1 u2 u3 u4 u5 : Value} (h : Chg lo hi a w) (hp : (lo ≤ b ∧ b < hi) ∨ a.heap.size ≤ b) :
    Chg lo hi a ((((((w.setCell ⟨b, 0, none⟩ u0).setCell ⟨b, 1, none⟩ u1).setCell ⟨b, 2, none⟩ u2).setCell ⟨b, 3, none⟩ u3).setCell ⟨b, 4, none⟩ u4).setCell ⟨b, 5, none⟩ u5) :=
  (((((h.set hp u0).set hp u1).set hp u2).set hp u3).set hp u4).set hp u5
theorem Rd.far6 {α : Type} [Rec α] {w : World} {a o b : Nat} {xs : List α} {u0 u1 u2 u3 u4 u5 : Value} (h : Rd w (some ⟨a, o, none⟩) xs) (hn : a ≠ b) :
    Rd ((((((w.setCell ⟨b, 0, none⟩ u0).setCell ⟨b, 1, none⟩ u1).setCell ⟨b, 2, none⟩ u2).setCell ⟨b, 3, none⟩ u3).setCell ⟨b, 4, none⟩ u4).setCell ⟨b, 5, none⟩ u5) (some ⟨a, o, none⟩) xs :=
  h.chg (lo := b) (hi := b + 1) (Chg.set6 (Chg.refl _ _ w) (.inl ⟨Nat.le_refl _, Nat.lt_succ_self _⟩)) (fun c off e => by injection e with e; injection e with e1; subst e1; omega)
theorem Blk.put6 {w : World} {b : Nat} {t : TypeId} {a0 a1 a2 a3 a4 a5 u0 u1 u2 u3 u4 u5 : Value} (h : Blk w b t [a0, a1, a2, a3, a4, a5]) :
    Blk ((((((w.setCell ⟨b, 0, none⟩ u0).setCell ⟨b, 1, none⟩ u1).setCell ⟨b, 2, none⟩ u2).setCell ⟨b, 3, none⟩ u3).setCell ⟨b, 4, none⟩ u4).setCell ⟨b, 5, none⟩ u5) b t [u0, u1, u2, u3, u4, u5] :=
  (((((h.set 0 u0).set 1 u1).set 2 u2).set 3 u3).set 4 u4).set 5 u5
end Go.Proofs.Ytidnefcnojedoaa
