/-
  NARROWER THAN 'FOR EVERY INPUT', by the rows' own cells (each row's printed sentence says how): FnExactMachineValid: laid · FnExactMemoryValid: laid · FnExactFreeFrame: laid.
  DERIVED. THE GIVEN ROWS OF THIS SEAT. 3 by the template 'for every input the law returns true; each argument reads behind the call as it read before'; 0 by the template 'total and deterministic' (their statements: YtihlaecbdlgbiaaDoorTotals.lean).
  GIVEN WITH THE SEED: the statements are not yours to turn. If you find one false, say at which input.
  Laid BY PROGRAM, IN A SANDBOX (cutbox-rows.mjs): the forced cells as the released guide's own fill.sh prints them over the translation 969dfb86fdac571f… (all of the seat's roots in one cut). By AI agents, Wed Nov 11 2026. No macro, syntax, notation, axiom, sorry.
-/
import Derived.Test.YtihlaecbdlgbiaaDoorChecked
import GoSem.Claim
import GoSem.ClaimJoined
import GoSem.ClaimMapViews
import Derived.JoinedTies
import Derived.KernelRfl
namespace Go.Proofs.YtihlaecbdlgbiaaDoor
/- THE CELL 'sum', in the pinned program and in every row, IS THE sha256 OF THE DUMP (.gsa) THAT YtihlaecbdlgbiaaDoorProg.lean LOADS. Nothing in Lean hashes anything: it is a label: what it is worth is what the hold of that sum in a sandbox is worth. -/
noncomputable def Tryd.pinned : Pinned := { name := "ytihlaecbdlgbiaadoor", sum := "969dfb86fdac571f2c5c1ed63d0b171953f5a5b4cd92ff194e6c6f3efa9e3f4c", checked := Tryd.checked }
namespace Rows
def none {H : Type} : Left H := { results := [], args := [] }

/- WHAT THE LISTED PACKAGE-LEVEL VARIABLES READ AS WHEN THE CALL BEGINS. Each datum BY PROGRAM (the guide's laid-datum.mjs) off the statement by which the dump's own 'gosem.cut.vars' lays the variable. In a bare row this is a premise. The card (YtihlaecbdlgbiaaDoorCards.lean) ties it to the program's text. -/
def laid_loop_example_invertedpages_impl_free {H : Type} : DataW H := .agg [.lit (.bool false), .agg [.lit (.int .i64 0), .lit (.int .i64 0)], .lit (.int .i64 0), .lit (.int .i64 (-1))]

/-- 'laws.FnExactMachineValid': WHATEVER THE INPUT: true; the input reads as it did. -/
def fnExactMachineValidSpec : ChangeSpec := { name := "fnExactMachineValid", vars := ["loop.example/invertedpages/impl.free"], fn := fun _ => fun
  | [d, g1] => { results := [.lit (.bool true)], args := [d], vars := [g1] }
  | _ => none }
def fnExactMachineValidRow : OpenClaim := { program := "ytihlaecbdlgbiaadoor", sum := "969dfb86fdac571f2c5c1ed63d0b171953f5a5b4cd92ff194e6c6f3efa9e3f4c", func := "loop.example/invertedpages/laws.FnExactMachineValid", spec := "fnExactMachineValid", unfollowed := true, recurses := true, named := ["loop.example/invertedpages/impl.free"], plainKeys := false, apart := false, laid := [("loop.example/invertedpages/impl.free", laid_loop_example_invertedpages_impl_free)] }
def FnExactMachineValidSaid : Prop := fnExactMachineValidRow.holds Tryd.pinned (OpenSpec.ofChange fnExactMachineValidSpec)

/-- ITS FALSE NEIGHBOUR: 'it returns false'. Refute it at one input. -/
def fnExactMachineValidWrong : ChangeSpec := { name := "fnExactMachineValid", vars := ["loop.example/invertedpages/impl.free"], fn := fun _ => fun
  | [d, g1] => { results := [.lit (.bool false)], args := [d], vars := [g1] }
  | _ => none }
def FnExactMachineValidWrongFalsely : Prop := fnExactMachineValidRow.holds Tryd.pinned (OpenSpec.ofChange fnExactMachineValidWrong)

/-- 'laws.FnExactMemoryValid': WHATEVER THE INPUT: true; the input reads as it did. -/
def fnExactMemoryValidSpec : ChangeSpec := { name := "fnExactMemoryValid", vars := ["loop.example/invertedpages/impl.free"], fn := fun _ => fun
  | [d, g1] => { results := [.lit (.bool true)], args := [d], vars := [g1] }
  | _ => none }
def fnExactMemoryValidRow : OpenClaim := { program := "ytihlaecbdlgbiaadoor", sum := "969dfb86fdac571f2c5c1ed63d0b171953f5a5b4cd92ff194e6c6f3efa9e3f4c", func := "loop.example/invertedpages/laws.FnExactMemoryValid", spec := "fnExactMemoryValid", unfollowed := true, recurses := true, named := ["loop.example/invertedpages/impl.free"], plainKeys := false, apart := false, laid := [("loop.example/invertedpages/impl.free", laid_loop_example_invertedpages_impl_free)] }
def FnExactMemoryValidSaid : Prop := fnExactMemoryValidRow.holds Tryd.pinned (OpenSpec.ofChange fnExactMemoryValidSpec)

/-- ITS FALSE NEIGHBOUR: 'it returns false'. Refute it at one input. -/
def fnExactMemoryValidWrong : ChangeSpec := { name := "fnExactMemoryValid", vars := ["loop.example/invertedpages/impl.free"], fn := fun _ => fun
  | [d, g1] => { results := [.lit (.bool false)], args := [d], vars := [g1] }
  | _ => none }
def FnExactMemoryValidWrongFalsely : Prop := fnExactMemoryValidRow.holds Tryd.pinned (OpenSpec.ofChange fnExactMemoryValidWrong)

/-- 'laws.FnExactFreeFrame': WHATEVER THE INPUT: true; the input reads as it did. -/
def fnExactFreeFrameSpec : ChangeSpec := { name := "fnExactFreeFrame", vars := ["loop.example/invertedpages/impl.free"], fn := fun _ => fun
  | [d, g1] => { results := [.lit (.bool true)], args := [d], vars := [g1] }
  | _ => none }
def fnExactFreeFrameRow : OpenClaim := { program := "ytihlaecbdlgbiaadoor", sum := "969dfb86fdac571f2c5c1ed63d0b171953f5a5b4cd92ff194e6c6f3efa9e3f4c", func := "loop.example/invertedpages/laws.FnExactFreeFrame", spec := "fnExactFreeFrame", unfollowed := true, recurses := true, named := ["loop.example/invertedpages/impl.free"], plainKeys := false, apart := false, laid := [("loop.example/invertedpages/impl.free", laid_loop_example_invertedpages_impl_free)] }
def FnExactFreeFrameSaid : Prop := fnExactFreeFrameRow.holds Tryd.pinned (OpenSpec.ofChange fnExactFreeFrameSpec)

/-- ITS FALSE NEIGHBOUR: 'it returns false'. Refute it at one input. -/
def fnExactFreeFrameWrong : ChangeSpec := { name := "fnExactFreeFrame", vars := ["loop.example/invertedpages/impl.free"], fn := fun _ => fun
  | [d, g1] => { results := [.lit (.bool false)], args := [d], vars := [g1] }
  | _ => none }
def FnExactFreeFrameWrongFalsely : Prop := fnExactFreeFrameRow.holds Tryd.pinned (OpenSpec.ofChange fnExactFreeFrameWrong)

/- THE SECOND FORM. 'bulk': how many values and letters a reading holds, each counted each time it is reached (what is shared counts as often as it is met; a slice's spare places count too). A statement '..UptoSaid' is the law's where the arguments, and the package variables that the reading takes, are together of bulk at most 1048576: NARROWER than '..Said'. Prove '..Said' where nothing that the law and all that it calls make is longer than what came in: it says more and counts as full. Else prove '..UptoSaid'. A law counts once. -/
mutual
def uptoBulk {H : Type} : DataW H → Nat
  | .lit (.string bytes) => bytes.length + 1
  | .lit _ => 1
  | .nil => 1
  | .ptr d => uptoBulk d + 1
  | .slice elems spare => uptoBulkAll elems + uptoBulkAll spare + 1
  | .agg parts => uptoBulkAll parts + 1
  | .iface _ d => uptoBulk d + 1
  | .map entries => uptoBulkEntries entries + 1
  | .held _ => 1
def uptoBulkAll {H : Type} : List (DataW H) → Nat
  | [] => 0
  | d :: r => uptoBulk d + uptoBulkAll r
def uptoBulkEntries {H : Type} : List (Lit × DataW H) → Nat
  | [] => 0
  | x :: r => uptoBulkEntry x + uptoBulkEntries r
def uptoBulkEntry {H : Type} : Lit × DataW H → Nat
  | (.string bytes, d) => bytes.length + uptoBulk d + 1
  | (_, d) => uptoBulk d + 1
 end
def uptoSmall : (H : Type) → List (DataW H) → Bool := fun _ ds => decide (uptoBulkAll ds ≤ 1048576)
def OpenSpec.upto (s : _root_.Go.ChangeSpec) : _root_.Go.OpenSpec := { _root_.Go.OpenSpec.ofChange s with cond := some uptoSmall }

/-- 'laws.FnExactMachineValid', WHERE WHAT IT READS IS OF BULK AT MOST 1048576: true; the input reads as it did. -/
def fnExactMachineValidUptoRow : OpenClaim := { program := "ytihlaecbdlgbiaadoor", sum := "969dfb86fdac571f2c5c1ed63d0b171953f5a5b4cd92ff194e6c6f3efa9e3f4c", func := "loop.example/invertedpages/laws.FnExactMachineValid", spec := "fnExactMachineValid", unfollowed := true, recurses := true, named := ["loop.example/invertedpages/impl.free"], plainKeys := false, apart := false, laid := [("loop.example/invertedpages/impl.free", laid_loop_example_invertedpages_impl_free)], narrowed := true }
def FnExactMachineValidUptoSaid : Prop := fnExactMachineValidUptoRow.holds Tryd.pinned (OpenSpec.upto fnExactMachineValidSpec)

/-- 'laws.FnExactMemoryValid', WHERE WHAT IT READS IS OF BULK AT MOST 1048576: true; the input reads as it did. -/
def fnExactMemoryValidUptoRow : OpenClaim := { program := "ytihlaecbdlgbiaadoor", sum := "969dfb86fdac571f2c5c1ed63d0b171953f5a5b4cd92ff194e6c6f3efa9e3f4c", func := "loop.example/invertedpages/laws.FnExactMemoryValid", spec := "fnExactMemoryValid", unfollowed := true, recurses := true, named := ["loop.example/invertedpages/impl.free"], plainKeys := false, apart := false, laid := [("loop.example/invertedpages/impl.free", laid_loop_example_invertedpages_impl_free)], narrowed := true }
def FnExactMemoryValidUptoSaid : Prop := fnExactMemoryValidUptoRow.holds Tryd.pinned (OpenSpec.upto fnExactMemoryValidSpec)

/-- 'laws.FnExactFreeFrame', WHERE WHAT IT READS IS OF BULK AT MOST 1048576: true; the input reads as it did. -/
def fnExactFreeFrameUptoRow : OpenClaim := { program := "ytihlaecbdlgbiaadoor", sum := "969dfb86fdac571f2c5c1ed63d0b171953f5a5b4cd92ff194e6c6f3efa9e3f4c", func := "loop.example/invertedpages/laws.FnExactFreeFrame", spec := "fnExactFreeFrame", unfollowed := true, recurses := true, named := ["loop.example/invertedpages/impl.free"], plainKeys := false, apart := false, laid := [("loop.example/invertedpages/impl.free", laid_loop_example_invertedpages_impl_free)], narrowed := true }
def FnExactFreeFrameUptoSaid : Prop := fnExactFreeFrameUptoRow.holds Tryd.pinned (OpenSpec.upto fnExactFreeFrameSpec)

end Rows
end Go.Proofs.YtihlaecbdlgbiaaDoor
