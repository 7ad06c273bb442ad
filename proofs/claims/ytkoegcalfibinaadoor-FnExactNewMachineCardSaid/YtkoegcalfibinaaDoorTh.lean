/- Small facts for TakeTag. -/
import Derived.Test.YtkoegcalfibinaaDoorTx
import Derived.Test.YtkoegcalfibinaaDoorTw
import Derived.RegionTactic
import Derived.ChangeAlike
namespace Go.Proofs.YtkoegcalfibinaaDoor
open Go.ChangeShapes Go.WideShapes Go.ChangeAt Go.RowKit
open Rec (sz cs)
set_option linter.unusedVariables false
set_option maxRecDepth 100000

theorem rowOf_clip {A : Option Addr} {n c b : Nat} (h : n ≤ c) (hb : rowOf A n = some b) : rowOf A c = some b := by
  unfold rowOf at hb ⊢
  split at hb
  · cases hb
  · rw [if_neg (by omega)]; exact hb
theorem Blk.put4 {w : World} {g : Nat} {t : TypeId} {a0 b0 c0 d0 a b c d : Value} (h : Blk w g t [a0, b0, c0, d0]) : Blk ((((w.setCell ⟨g, 0, none⟩ a).setCell ⟨g, 1, none⟩ b).setCell ⟨g, 2, none⟩ c).setCell ⟨g, 3, none⟩ d) g t [a, b, c, d] := (((h.set 0 a).set 1 b).set 2 c).set 3 d
theorem one_own (w : World) (s g : Int) : Rd (w.alloc (.cells #[.int .i64 s, .int .i64 g] 129)) (some ⟨w.heap.size, 0, none⟩) [(⟨s, g⟩ : OwnD)] := Bk.rd (Bk.new w 129 [(⟨s, g⟩ : OwnD)])
theorem one_own_at (w : World) (s g : Int) {b : Nat} (hb : b = w.heap.size) : Rd (w.alloc (.cells #[.int .i64 s, .int .i64 g] 129)) (some ⟨b, 0, none⟩) [(⟨s, g⟩ : OwnD)] := by
  subst hb; exact one_own w s g
end Go.Proofs.YtkoegcalfibinaaDoor
