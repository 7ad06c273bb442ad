/-
  NARROWER THAN 'FOR EVERY INPUT', by the rows' own cells (each row's printed sentence says how): FnMachineSame: laid · FnRehashOne: laid · FnMachineValid: laid.
  DERIVED. THE GIVEN ROWS OF THIS SEAT. 3 by the template 'for every input the law returns true; each argument reads behind the call as it read before'; 0 by the template 'total and deterministic' (their statements: YtmipkeabfglfaaaDoorTotals.lean).
  GIVEN WITH THE SEED: the statements are not yours to turn. If you find one false, say at which input.
  Laid BY PROGRAM, IN A SANDBOX (cutbox-rows.mjs): the forced cells as the released guide's own fill.sh prints them over the translation c42ad3e148542b46… (all of the seat's roots in one cut). By AI agents, Wed Nov 11 2026. No macro, syntax, notation, axiom, sorry.
-/
import Derived.Test.YtmipkeabfglfaaaDoorChecked
import GoSem.Claim
import GoSem.ClaimJoined
import GoSem.ClaimMapViews
import Derived.JoinedTies
import Derived.KernelRfl
namespace Go.Proofs.YtmipkeabfglfaaaDoor
/- THE CELL 'sum', in the pinned program and in every row, IS THE sha256 OF THE DUMP (.gsa) THAT YtmipkeabfglfaaaDoorProg.lean LOADS. Nothing in Lean hashes anything: it is a label: what it is worth is what the hold of that sum in a sandbox is worth. -/
noncomputable def Tryd.pinned : Pinned := { name := "ytmipkeabfglfaaadoor", sum := "c42ad3e148542b465191402c386e8724c9475695de196a2dbb0842de557f20aa", checked := Tryd.checked }
namespace Rows
def none {H : Type} : Left H := { results := [], args := [] }

/- WHAT THE LISTED PACKAGE-LEVEL VARIABLES READ AS WHEN THE CALL BEGINS. Each datum BY PROGRAM (the guide's laid-datum.mjs) off the statement by which the dump's own 'gosem.cut.vars' lays the variable. In a bare row this is a premise. The card (YtmipkeabfglfaaaDoorCards.lean) ties it to the program's text. -/
def laid_loop_example_invertedpages_impl_free {H : Type} : DataW H := .agg [.lit (.bool false), .agg [.lit (.int .i64 0), .lit (.int .i64 0)], .lit (.int .i64 0), .lit (.int .i64 (-1))]

/-- 'laws.FnMachineSame': WHATEVER THE INPUT: true; the input reads as it did. -/
def fnMachineSameSpec : ChangeSpec := { name := "fnMachineSame", vars := ["loop.example/invertedpages/impl.free"], fn := fun _ => fun
  | [d, g1] => { results := [.lit (.bool true)], args := [d], vars := [g1] }
  | _ => none }
def fnMachineSameRow : OpenClaim := { program := "ytmipkeabfglfaaadoor", sum := "c42ad3e148542b465191402c386e8724c9475695de196a2dbb0842de557f20aa", func := "loop.example/invertedpages/laws.FnMachineSame", spec := "fnMachineSame", unfollowed := true, recurses := true, named := ["loop.example/invertedpages/impl.free"], plainKeys := false, apart := false, laid := [("loop.example/invertedpages/impl.free", laid_loop_example_invertedpages_impl_free)] }
def FnMachineSameSaid : Prop := fnMachineSameRow.holds Tryd.pinned (OpenSpec.ofChange fnMachineSameSpec)

/-- ITS FALSE NEIGHBOUR: 'it returns false'. Refute it at one input. -/
def fnMachineSameWrong : ChangeSpec := { name := "fnMachineSame", vars := ["loop.example/invertedpages/impl.free"], fn := fun _ => fun
  | [d, g1] => { results := [.lit (.bool false)], args := [d], vars := [g1] }
  | _ => none }
def FnMachineSameWrongFalsely : Prop := fnMachineSameRow.holds Tryd.pinned (OpenSpec.ofChange fnMachineSameWrong)

/-- 'laws.FnRehashOne': WHATEVER THE INPUT: true; the input reads as it did. -/
def fnRehashOneSpec : ChangeSpec := { name := "fnRehashOne", vars := ["loop.example/invertedpages/impl.free"], fn := fun _ => fun
  | [d, g1] => { results := [.lit (.bool true)], args := [d], vars := [g1] }
  | _ => none }
def fnRehashOneRow : OpenClaim := { program := "ytmipkeabfglfaaadoor", sum := "c42ad3e148542b465191402c386e8724c9475695de196a2dbb0842de557f20aa", func := "loop.example/invertedpages/laws.FnRehashOne", spec := "fnRehashOne", unfollowed := true, recurses := true, named := ["loop.example/invertedpages/impl.free"], plainKeys := false, apart := false, laid := [("loop.example/invertedpages/impl.free", laid_loop_example_invertedpages_impl_free)] }
def FnRehashOneSaid : Prop := fnRehashOneRow.holds Tryd.pinned (OpenSpec.ofChange fnRehashOneSpec)

/-- ITS FALSE NEIGHBOUR: 'it returns false'. Refute it at one input. -/
def fnRehashOneWrong : ChangeSpec := { name := "fnRehashOne", vars := ["loop.example/invertedpages/impl.free"], fn := fun _ => fun
  | [d, g1] => { results := [.lit (.bool false)], args := [d], vars := [g1] }
  | _ => none }
def FnRehashOneWrongFalsely : Prop := fnRehashOneRow.holds Tryd.pinned (OpenSpec.ofChange fnRehashOneWrong)

/-- 'laws.FnMachineValid': WHATEVER THE INPUT: true; the input reads as it did. -/
def fnMachineValidSpec : ChangeSpec := { name := "fnMachineValid", vars := ["loop.example/invertedpages/impl.free"], fn := fun _ => fun
  | [d, g1] => { results := [.lit (.bool true)], args := [d], vars := [g1] }
  | _ => none }
def fnMachineValidRow : OpenClaim := { program := "ytmipkeabfglfaaadoor", sum := "c42ad3e148542b465191402c386e8724c9475695de196a2dbb0842de557f20aa", func := "loop.example/invertedpages/laws.FnMachineValid", spec := "fnMachineValid", unfollowed := true, recurses := true, named := ["loop.example/invertedpages/impl.free"], plainKeys := false, apart := false, laid := [("loop.example/invertedpages/impl.free", laid_loop_example_invertedpages_impl_free)] }
def FnMachineValidSaid : Prop := fnMachineValidRow.holds Tryd.pinned (OpenSpec.ofChange fnMachineValidSpec)

/-- ITS FALSE NEIGHBOUR: 'it returns false'. Refute it at one input. -/
def fnMachineValidWrong : ChangeSpec := { name := "fnMachineValid", vars := ["loop.example/invertedpages/impl.free"], fn := fun _ => fun
  | [d, g1] => { results := [.lit (.bool false)], args := [d], vars := [g1] }
  | _ => none }
def FnMachineValidWrongFalsely : Prop := fnMachineValidRow.holds Tryd.pinned (OpenSpec.ofChange fnMachineValidWrong)

/- THE SECOND FORM. 'bulk': how many values and letters a reading holds, each counted each time it is reached (what is shared counts as often as it is met; a slice's spare places count too). A statement '..UptoSaid' is the law's where the arguments, and the package variables that the reading takes, are together of bulk at most 1048576: NARROWER than '..Said'. Prove '..Said' where nothing that the law and all that it calls make is longer than what came in: it says more and counts as full. Else prove '..UptoSaid'. A law counts once. -/
mutual
def uptoBulk {H : Type} : DataW H → Nat
  | .lit (.string bytes) => bytes.length + 1
  | .lit _ => 1
  | .nil => 1
  | .ptr d => uptoBulk d + 1
  | .slice elems spare => uptoBulkAll elems + uptoBulkAll spare + 1
  | .agg parts => uptoBulkAll parts + 1
  | .iface _ d => uptoBulk d + 1
  | .map entries => uptoBulkEntries entries + 1
  | .held _ => 1
def uptoBulkAll {H : Type} : List (DataW H) → Nat
  | [] => 0
  | d :: r => uptoBulk d + uptoBulkAll r
def uptoBulkEntries {H : Type} : List (Lit × DataW H) → Nat
  | [] => 0
  | x :: r => uptoBulkEntry x + uptoBulkEntries r
def uptoBulkEntry {H : Type} : Lit × DataW H → Nat
  | (.string bytes, d) => bytes.length + uptoBulk d + 1
  | (_, d) => uptoBulk d + 1
 end
def uptoSmall : (H : Type) → List (DataW H) → Bool := fun _ ds => decide (uptoBulkAll ds ≤ 1048576)
def OpenSpec.upto (s : _root_.Go.ChangeSpec) : _root_.Go.OpenSpec := { _root_.Go.OpenSpec.ofChange s with cond := some uptoSmall }

/-- 'laws.FnMachineSame', WHERE WHAT IT READS IS OF BULK AT MOST 1048576: true; the input reads as it did. -/
def fnMachineSameUptoRow : OpenClaim := { program := "ytmipkeabfglfaaadoor", sum := "c42ad3e148542b465191402c386e8724c9475695de196a2dbb0842de557f20aa", func := "loop.example/invertedpages/laws.FnMachineSame", spec := "fnMachineSame", unfollowed := true, recurses := true, named := ["loop.example/invertedpages/impl.free"], plainKeys := false, apart := false, laid := [("loop.example/invertedpages/impl.free", laid_loop_example_invertedpages_impl_free)], narrowed := true }
def FnMachineSameUptoSaid : Prop := fnMachineSameUptoRow.holds Tryd.pinned (OpenSpec.upto fnMachineSameSpec)

/-- 'laws.FnRehashOne', WHERE WHAT IT READS IS OF BULK AT MOST 1048576: true; the input reads as it did. -/
def fnRehashOneUptoRow : OpenClaim := { program := "ytmipkeabfglfaaadoor", sum := "c42ad3e148542b465191402c386e8724c9475695de196a2dbb0842de557f20aa", func := "loop.example/invertedpages/laws.FnRehashOne", spec := "fnRehashOne", unfollowed := true, recurses := true, named := ["loop.example/invertedpages/impl.free"], plainKeys := false, apart := false, laid := [("loop.example/invertedpages/impl.free", laid_loop_example_invertedpages_impl_free)], narrowed := true }
def FnRehashOneUptoSaid : Prop := fnRehashOneUptoRow.holds Tryd.pinned (OpenSpec.upto fnRehashOneSpec)

/-- 'laws.FnMachineValid', WHERE WHAT IT READS IS OF BULK AT MOST 1048576: true; the input reads as it did. -/
def fnMachineValidUptoRow : OpenClaim := { program := "ytmipkeabfglfaaadoor", sum := "c42ad3e148542b465191402c386e8724c9475695de196a2dbb0842de557f20aa", func := "loop.example/invertedpages/laws.FnMachineValid", spec := "fnMachineValid", unfollowed := true, recurses := true, named := ["loop.example/invertedpages/impl.free"], plainKeys := false, apart := false, laid := [("loop.example/invertedpages/impl.free", laid_loop_example_invertedpages_impl_free)], narrowed := true }
def FnMachineValidUptoSaid : Prop := fnMachineValidUptoRow.holds Tryd.pinned (OpenSpec.upto fnMachineValidSpec)

end Rows
end Go.Proofs.YtmipkeabfglfaaaDoor
