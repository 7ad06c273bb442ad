/- WireLine: the model and the implementation's walk. -/
import Derived.Test.YtidnefcnojedoaaCk
import Derived.Test.YtidnefcnojedoaaCm
namespace Go.Proofs.Ytidnefcnojedoaa
open Go.ChangeShapes Go.WideShapes Go.ChangeAt Go.RowKit
open Rec (sz cs)
set_option linter.unusedVariables false
set_option maxRecDepth 100000

def wireOut (t : CacheD) (k : Nat) (b : Bool) : CacheD := ⟨t.lines.set k { t.lines.getD k noLine with wired := b }, t.hand⟩
def wireLine (t : CacheD) (p : Int) (b : Bool) : CacheD × Bool :=
  if cacheV t = true ∧ inB p t.lines.length = true ∧ (t.lines.getD p.toNat noLine).valid = true ∧ cacheV (wireOut t p.toNat b) = true then (wireOut t p.toNat b, true) else (noCache, false)

end Go.Proofs.Ytidnefcnojedoaa
