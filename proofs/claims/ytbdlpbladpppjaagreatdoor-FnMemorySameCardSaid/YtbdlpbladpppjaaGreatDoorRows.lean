/-
  NARROWER THAN 'FOR EVERY INPUT', by the rows' own cells (each row's printed sentence says how): FnFreeFrame: laid · FnMemorySame: laid.
  DERIVED. THE GIVEN ROWS OF THIS SEAT. 2 by the template 'for every input the law returns true; each argument reads behind the call as it read before'; 0 by the template 'total and deterministic' (their statements: YtbdlpbladpppjaaGreatDoorTotals.lean).
  GIVEN WITH THE SEED: the statements are not yours to turn. If you find one false, say at which input.
  Laid BY PROGRAM, IN A SANDBOX (cutbox-rows.mjs): the forced cells as the released guide's own fill.sh prints them over the translation 6dc152eadc51ba9f… (all of the seat's roots in one cut). By AI agents, Wed Nov 11 2026. No macro, syntax, notation, axiom, sorry.
-/
import Derived.Test.YtbdlpbladpppjaaGreatDoorChecked
import GoSem.Claim
import GoSem.ClaimJoined
import GoSem.ClaimMapViews
import Derived.JoinedTies
import Derived.KernelRfl
namespace Go.Proofs.YtbdlpbladpppjaaGreatDoor
/- THE CELL 'sum', in the pinned program and in every row, IS THE sha256 OF THE DUMP (.gsa) THAT YtbdlpbladpppjaaGreatDoorProg.lean LOADS. Nothing in Lean hashes anything: it is a label: what it is worth is what the hold of that sum in a sandbox is worth. -/
noncomputable def Tryz.pinned : Pinned := { name := "ytbdlpbladpppjaagreatdoor", sum := "6dc152eadc51ba9f75f0e6d985093b31766575486191660c0e2b4570cfc70c53", checked := Tryz.checked }
namespace Rows
def none {H : Type} : Left H := { results := [], args := [] }

/- WHAT THE LISTED PACKAGE-LEVEL VARIABLES READ AS WHEN THE CALL BEGINS. Each datum BY PROGRAM (the guide's laid-datum.mjs) off the statement by which the dump's own 'gosem.cut.vars' lays the variable. In a bare row this is a premise. The card (YtbdlpbladpppjaaGreatDoorCards.lean) ties it to the program's text. -/
def laid_loop_example_invertedpages_impl_free {H : Type} : DataW H := .agg [.lit (.bool false), .agg [.lit (.int .i64 0), .lit (.int .i64 0)], .lit (.int .i64 0), .lit (.int .i64 (-1))]

/-- 'laws.FnFreeFrame': WHATEVER THE INPUT: true; the input reads as it did. -/
def fnFreeFrameSpec : ChangeSpec := { name := "fnFreeFrame", vars := ["loop.example/invertedpages/impl.free"], fn := fun _ => fun
  | [d, g1] => { results := [.lit (.bool true)], args := [d], vars := [g1] }
  | _ => none }
def fnFreeFrameRow : OpenClaim := { program := "ytbdlpbladpppjaagreatdoor", sum := "6dc152eadc51ba9f75f0e6d985093b31766575486191660c0e2b4570cfc70c53", func := "loop.example/invertedpages/laws.FnFreeFrame", spec := "fnFreeFrame", unfollowed := true, recurses := true, named := ["loop.example/invertedpages/impl.free"], plainKeys := false, apart := false, laid := [("loop.example/invertedpages/impl.free", laid_loop_example_invertedpages_impl_free)] }
def FnFreeFrameSaid : Prop := fnFreeFrameRow.holds Tryz.pinned (OpenSpec.ofChange fnFreeFrameSpec)

/-- ITS FALSE NEIGHBOUR: 'it returns false'. Refute it at one input. -/
def fnFreeFrameWrong : ChangeSpec := { name := "fnFreeFrame", vars := ["loop.example/invertedpages/impl.free"], fn := fun _ => fun
  | [d, g1] => { results := [.lit (.bool false)], args := [d], vars := [g1] }
  | _ => none }
def FnFreeFrameWrongFalsely : Prop := fnFreeFrameRow.holds Tryz.pinned (OpenSpec.ofChange fnFreeFrameWrong)

/-- 'laws.FnMemorySame': WHATEVER THE INPUT: true; the input reads as it did. -/
def fnMemorySameSpec : ChangeSpec := { name := "fnMemorySame", vars := ["loop.example/invertedpages/impl.free"], fn := fun _ => fun
  | [d, g1] => { results := [.lit (.bool true)], args := [d], vars := [g1] }
  | _ => none }
def fnMemorySameRow : OpenClaim := { program := "ytbdlpbladpppjaagreatdoor", sum := "6dc152eadc51ba9f75f0e6d985093b31766575486191660c0e2b4570cfc70c53", func := "loop.example/invertedpages/laws.FnMemorySame", spec := "fnMemorySame", unfollowed := true, recurses := true, named := ["loop.example/invertedpages/impl.free"], plainKeys := false, apart := false, laid := [("loop.example/invertedpages/impl.free", laid_loop_example_invertedpages_impl_free)] }
def FnMemorySameSaid : Prop := fnMemorySameRow.holds Tryz.pinned (OpenSpec.ofChange fnMemorySameSpec)

/-- ITS FALSE NEIGHBOUR: 'it returns false'. Refute it at one input. -/
def fnMemorySameWrong : ChangeSpec := { name := "fnMemorySame", vars := ["loop.example/invertedpages/impl.free"], fn := fun _ => fun
  | [d, g1] => { results := [.lit (.bool false)], args := [d], vars := [g1] }
  | _ => none }
def FnMemorySameWrongFalsely : Prop := fnMemorySameRow.holds Tryz.pinned (OpenSpec.ofChange fnMemorySameWrong)

/- THE SECOND FORM. 'bulk': how many values and letters a reading holds, each counted each time it is reached (what is shared counts as often as it is met; a slice's spare places count too). A statement '..UptoSaid' is the law's where the arguments, and the package variables that the reading takes, are together of bulk at most 1048576: NARROWER than '..Said'. Prove '..Said' where nothing that the law and all that it calls make is longer than what came in: it says more and counts as full. Else prove '..UptoSaid'. A law counts once. -/
mutual
def uptoBulk {H : Type} : DataW H → Nat
  | .lit (.string bytes) => bytes.length + 1
  | .lit _ => 1
  | .nil => 1
  | .ptr d => uptoBulk d + 1
  | .slice elems spare => uptoBulkAll elems + uptoBulkAll spare + 1
  | .agg parts => uptoBulkAll parts + 1
  | .iface _ d => uptoBulk d + 1
  | .map entries => uptoBulkEntries entries + 1
  | .held _ => 1
def uptoBulkAll {H : Type} : List (DataW H) → Nat
  | [] => 0
  | d :: r => uptoBulk d + uptoBulkAll r
def uptoBulkEntries {H : Type} : List (Lit × DataW H) → Nat
  | [] => 0
  | x :: r => uptoBulkEntry x + uptoBulkEntries r
def uptoBulkEntry {H : Type} : Lit × DataW H → Nat
  | (.string bytes, d) => bytes.length + uptoBulk d + 1
  | (_, d) => uptoBulk d + 1
 end
def uptoSmall : (H : Type) → List (DataW H) → Bool := fun _ ds => decide (uptoBulkAll ds ≤ 1048576)
def OpenSpec.upto (s : _root_.Go.ChangeSpec) : _root_.Go.OpenSpec := { _root_.Go.OpenSpec.ofChange s with cond := some uptoSmall }

/-- 'laws.FnFreeFrame', WHERE WHAT IT READS IS OF BULK AT MOST 1048576: true; the input reads as it did. -/
def fnFreeFrameUptoRow : OpenClaim := { program := "ytbdlpbladpppjaagreatdoor", sum := "6dc152eadc51ba9f75f0e6d985093b31766575486191660c0e2b4570cfc70c53", func := "loop.example/invertedpages/laws.FnFreeFrame", spec := "fnFreeFrame", unfollowed := true, recurses := true, named := ["loop.example/invertedpages/impl.free"], plainKeys := false, apart := false, laid := [("loop.example/invertedpages/impl.free", laid_loop_example_invertedpages_impl_free)], narrowed := true }
def FnFreeFrameUptoSaid : Prop := fnFreeFrameUptoRow.holds Tryz.pinned (OpenSpec.upto fnFreeFrameSpec)

/-- 'laws.FnMemorySame', WHERE WHAT IT READS IS OF BULK AT MOST 1048576: true; the input reads as it did. -/
def fnMemorySameUptoRow : OpenClaim := { program := "ytbdlpbladpppjaagreatdoor", sum := "6dc152eadc51ba9f75f0e6d985093b31766575486191660c0e2b4570cfc70c53", func := "loop.example/invertedpages/laws.FnMemorySame", spec := "fnMemorySame", unfollowed := true, recurses := true, named := ["loop.example/invertedpages/impl.free"], plainKeys := false, apart := false, laid := [("loop.example/invertedpages/impl.free", laid_loop_example_invertedpages_impl_free)], narrowed := true }
def FnMemorySameUptoSaid : Prop := fnMemorySameUptoRow.holds Tryz.pinned (OpenSpec.upto fnMemorySameSpec)

end Rows
end Go.Proofs.YtbdlpbladpppjaaGreatDoor
