/-
  No cell of these rows narrows 'for every input' (looked for: loops, veiled, ifaces, maps, wideKeys, modest, calm, conditions, laid).
  DERIVED. THE GIVEN ROWS OF THIS SEAT. 3 by the template 'for every input the law returns true; each argument reads behind the call as it read before'; 0 by the template 'total and deterministic' (their statements: YtkoegcalfibinaaTotals.lean).
  GIVEN WITH THE SEED: the statements are not yours to turn. If you find one false, say at which input.
  Laid BY PROGRAM, IN A SANDBOX (cutbox-rows.mjs): the forced cells as the released guide's own fill.sh prints them over the translation 402610c628d1ea1d… (all of the seat's roots in one cut). By AI agents, Wed Nov 11 2026. No macro, syntax, notation, axiom, sorry.
-/
import Derived.Test.YtkoegcalfibinaaChecked
import GoSem.Claim
import GoSem.ClaimJoined
import GoSem.ClaimMapViews
import Derived.JoinedTies
import Derived.KernelRfl
namespace Go.Proofs.Ytkoegcalfibinaa
/- THE CELL 'sum', in the pinned program and in every row, IS THE sha256 OF THE DUMP (.gsa) THAT YtkoegcalfibinaaProg.lean LOADS. Nothing in Lean hashes anything: it is a label: what it is worth is what the hold of that sum in a sandbox is worth. -/
noncomputable def Try.pinned : Pinned := { name := "ytkoegcalfibinaa", sum := "402610c628d1ea1d773a1947f1dffeb1c3461a7a5584405c08b9e92ed81a5780", checked := Try.checked }
namespace Rows
def none {H : Type} : Left H := { results := [], args := [] }

/-- 'laws.FnExactSystemSame': WHATEVER THE INPUT: true; the input reads as it did. -/
def fnExactSystemSameSpec : ChangeSpec := { name := "fnExactSystemSame", fn := fun _ => fun
  | [d1, d2] => { results := [.lit (.bool true)], args := [d1, d2] }
  | _ => none }
def fnExactSystemSameRow : OpenClaim := { program := "ytkoegcalfibinaa", sum := "402610c628d1ea1d773a1947f1dffeb1c3461a7a5584405c08b9e92ed81a5780", func := "loop.example/invertedpages/laws.FnExactSystemSame", spec := "fnExactSystemSame", unfollowed := true, recurses := true, apart := false }
def FnExactSystemSameSaid : Prop := fnExactSystemSameRow.holds Try.pinned (OpenSpec.ofChange fnExactSystemSameSpec)

/-- ITS FALSE NEIGHBOUR: 'it returns false'. Refute it at one input. -/
def fnExactSystemSameWrong : ChangeSpec := { name := "fnExactSystemSame", fn := fun _ => fun
  | [d1, d2] => { results := [.lit (.bool false)], args := [d1, d2] }
  | _ => none }
def FnExactSystemSameWrongFalsely : Prop := fnExactSystemSameRow.holds Try.pinned (OpenSpec.ofChange fnExactSystemSameWrong)

/-- 'laws.FnExactMachineSame': WHATEVER THE INPUT: true; the input reads as it did. -/
def fnExactMachineSameSpec : ChangeSpec := { name := "fnExactMachineSame", fn := fun _ => fun
  | [d1, d2] => { results := [.lit (.bool true)], args := [d1, d2] }
  | _ => none }
def fnExactMachineSameRow : OpenClaim := { program := "ytkoegcalfibinaa", sum := "402610c628d1ea1d773a1947f1dffeb1c3461a7a5584405c08b9e92ed81a5780", func := "loop.example/invertedpages/laws.FnExactMachineSame", spec := "fnExactMachineSame", apart := false }
def FnExactMachineSameSaid : Prop := fnExactMachineSameRow.holds Try.pinned (OpenSpec.ofChange fnExactMachineSameSpec)

/-- ITS FALSE NEIGHBOUR: 'it returns false'. Refute it at one input. -/
def fnExactMachineSameWrong : ChangeSpec := { name := "fnExactMachineSame", fn := fun _ => fun
  | [d1, d2] => { results := [.lit (.bool false)], args := [d1, d2] }
  | _ => none }
def FnExactMachineSameWrongFalsely : Prop := fnExactMachineSameRow.holds Try.pinned (OpenSpec.ofChange fnExactMachineSameWrong)

/-- 'laws.FnExactMemorySame': WHATEVER THE INPUT: true; the input reads as it did. -/
def fnExactMemorySameSpec : ChangeSpec := { name := "fnExactMemorySame", fn := fun _ => fun
  | [d1, d2] => { results := [.lit (.bool true)], args := [d1, d2] }
  | _ => none }
def fnExactMemorySameRow : OpenClaim := { program := "ytkoegcalfibinaa", sum := "402610c628d1ea1d773a1947f1dffeb1c3461a7a5584405c08b9e92ed81a5780", func := "loop.example/invertedpages/laws.FnExactMemorySame", spec := "fnExactMemorySame", apart := false }
def FnExactMemorySameSaid : Prop := fnExactMemorySameRow.holds Try.pinned (OpenSpec.ofChange fnExactMemorySameSpec)

/-- ITS FALSE NEIGHBOUR: 'it returns false'. Refute it at one input. -/
def fnExactMemorySameWrong : ChangeSpec := { name := "fnExactMemorySame", fn := fun _ => fun
  | [d1, d2] => { results := [.lit (.bool false)], args := [d1, d2] }
  | _ => none }
def FnExactMemorySameWrongFalsely : Prop := fnExactMemorySameRow.holds Try.pinned (OpenSpec.ofChange fnExactMemorySameWrong)

/- THE SECOND FORM. 'bulk': how many values and letters a reading holds, each counted each time it is reached (what is shared counts as often as it is met; a slice's spare places count too). A statement '..UptoSaid' is the law's where the arguments, and the package variables that the reading takes, are together of bulk at most 1048576: NARROWER than '..Said'. Prove '..Said' where nothing that the law and all that it calls make is longer than what came in: it says more and counts as full. Else prove '..UptoSaid'. A law counts once. -/
mutual
def uptoBulk {H : Type} : DataW H → Nat
  | .lit (.string bytes) => bytes.length + 1
  | .lit _ => 1
  | .nil => 1
  | .ptr d => uptoBulk d + 1
  | .slice elems spare => uptoBulkAll elems + uptoBulkAll spare + 1
  | .agg parts => uptoBulkAll parts + 1
  | .iface _ d => uptoBulk d + 1
  | .map entries => uptoBulkEntries entries + 1
  | .held _ => 1
def uptoBulkAll {H : Type} : List (DataW H) → Nat
  | [] => 0
  | d :: r => uptoBulk d + uptoBulkAll r
def uptoBulkEntries {H : Type} : List (Lit × DataW H) → Nat
  | [] => 0
  | x :: r => uptoBulkEntry x + uptoBulkEntries r
def uptoBulkEntry {H : Type} : Lit × DataW H → Nat
  | (.string bytes, d) => bytes.length + uptoBulk d + 1
  | (_, d) => uptoBulk d + 1
 end
def uptoSmall : (H : Type) → List (DataW H) → Bool := fun _ ds => decide (uptoBulkAll ds ≤ 1048576)
def OpenSpec.upto (s : _root_.Go.ChangeSpec) : _root_.Go.OpenSpec := { _root_.Go.OpenSpec.ofChange s with cond := some uptoSmall }

/-- 'laws.FnExactSystemSame', WHERE WHAT IT READS IS OF BULK AT MOST 1048576: true; the input reads as it did. -/
def fnExactSystemSameUptoRow : OpenClaim := { program := "ytkoegcalfibinaa", sum := "402610c628d1ea1d773a1947f1dffeb1c3461a7a5584405c08b9e92ed81a5780", func := "loop.example/invertedpages/laws.FnExactSystemSame", spec := "fnExactSystemSame", unfollowed := true, recurses := true, apart := false, narrowed := true }
def FnExactSystemSameUptoSaid : Prop := fnExactSystemSameUptoRow.holds Try.pinned (OpenSpec.upto fnExactSystemSameSpec)

/-- 'laws.FnExactMachineSame', WHERE WHAT IT READS IS OF BULK AT MOST 1048576: true; the input reads as it did. -/
def fnExactMachineSameUptoRow : OpenClaim := { program := "ytkoegcalfibinaa", sum := "402610c628d1ea1d773a1947f1dffeb1c3461a7a5584405c08b9e92ed81a5780", func := "loop.example/invertedpages/laws.FnExactMachineSame", spec := "fnExactMachineSame", apart := false, narrowed := true }
def FnExactMachineSameUptoSaid : Prop := fnExactMachineSameUptoRow.holds Try.pinned (OpenSpec.upto fnExactMachineSameSpec)

/-- 'laws.FnExactMemorySame', WHERE WHAT IT READS IS OF BULK AT MOST 1048576: true; the input reads as it did. -/
def fnExactMemorySameUptoRow : OpenClaim := { program := "ytkoegcalfibinaa", sum := "402610c628d1ea1d773a1947f1dffeb1c3461a7a5584405c08b9e92ed81a5780", func := "loop.example/invertedpages/laws.FnExactMemorySame", spec := "fnExactMemorySame", apart := false, narrowed := true }
def FnExactMemorySameUptoSaid : Prop := fnExactMemorySameUptoRow.holds Try.pinned (OpenSpec.upto fnExactMemorySameSpec)

end Rows
end Go.Proofs.Ytkoegcalfibinaa
