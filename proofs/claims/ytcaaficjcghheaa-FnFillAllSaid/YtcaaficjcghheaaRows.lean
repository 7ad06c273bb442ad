/-
  No cell of these rows narrows 'for every input' (looked for: loops, veiled, ifaces, maps, wideKeys, modest, calm, conditions, laid).
  DERIVED. THE GIVEN ROWS OF THIS SEAT. 13 by the template 'for every input the law returns true; each argument reads behind the call as it read before'; 0 by the template 'total and deterministic' (their statements: YtcaaficjcghheaaTotals.lean).
  GIVEN WITH THE SEED: the statements are not yours to turn. If you find one false, say at which input.
  Laid BY PROGRAM, IN A SANDBOX (cutbox-rows.mjs): the forced cells as the released guide's own fill.sh prints them over the translation f00b3e42d113828b… (all of the seat's roots in one cut). By AI agents, Wed Nov 11 2026. No macro, syntax, notation, axiom, sorry.
-/
import Derived.Test.YtcaaficjcghheaaChecked
import GoSem.Claim
import GoSem.ClaimJoined
import GoSem.ClaimMapViews
import Derived.JoinedTies
import Derived.KernelRfl
namespace Go.Proofs.Ytcaaficjcghheaa
/- THE CELL 'sum', in the pinned program and in every row, IS THE sha256 OF THE DUMP (.gsa) THAT YtcaaficjcghheaaProg.lean LOADS. Nothing in Lean hashes anything: it is a label: what it is worth is what the hold of that sum in a sandbox is worth. -/
noncomputable def Try.pinned : Pinned := { name := "ytcaaficjcghheaa", sum := "f00b3e42d113828b87d4c13a8118b8cde9055e96599062008944fa295a7684a4", checked := Try.checked }
namespace Rows
def none {H : Type} : Left H := { results := [], args := [] }

/-- 'laws.FnExactCacheSame': WHATEVER THE INPUT: true; the input reads as it did. -/
def fnExactCacheSameSpec : ChangeSpec := { name := "fnExactCacheSame", fn := fun _ => fun
  | [d1, d2] => { results := [.lit (.bool true)], args := [d1, d2] }
  | _ => none }
def fnExactCacheSameRow : OpenClaim := { program := "ytcaaficjcghheaa", sum := "f00b3e42d113828b87d4c13a8118b8cde9055e96599062008944fa295a7684a4", func := "loop.example/invertedpages/laws.FnExactCacheSame", spec := "fnExactCacheSame", apart := false }
def FnExactCacheSameSaid : Prop := fnExactCacheSameRow.holds Try.pinned (OpenSpec.ofChange fnExactCacheSameSpec)

/-- ITS FALSE NEIGHBOUR: 'it returns false'. Refute it at one input. -/
def fnExactCacheSameWrong : ChangeSpec := { name := "fnExactCacheSame", fn := fun _ => fun
  | [d1, d2] => { results := [.lit (.bool false)], args := [d1, d2] }
  | _ => none }
def FnExactCacheSameWrongFalsely : Prop := fnExactCacheSameRow.holds Try.pinned (OpenSpec.ofChange fnExactCacheSameWrong)

/-- 'laws.FnExactNewCache': WHATEVER THE INPUT: true; the input reads as it did. -/
def fnExactNewCacheSpec : ChangeSpec := { name := "fnExactNewCache", fn := fun _ => fun
  | [d] => { results := [.lit (.bool true)], args := [d] }
  | _ => none }
def fnExactNewCacheRow : OpenClaim := { program := "ytcaaficjcghheaa", sum := "f00b3e42d113828b87d4c13a8118b8cde9055e96599062008944fa295a7684a4", func := "loop.example/invertedpages/laws.FnExactNewCache", spec := "fnExactNewCache", apart := false }
def FnExactNewCacheSaid : Prop := fnExactNewCacheRow.holds Try.pinned (OpenSpec.ofChange fnExactNewCacheSpec)

/-- ITS FALSE NEIGHBOUR: 'it returns false'. Refute it at one input. -/
def fnExactNewCacheWrong : ChangeSpec := { name := "fnExactNewCache", fn := fun _ => fun
  | [d] => { results := [.lit (.bool false)], args := [d] }
  | _ => none }
def FnExactNewCacheWrongFalsely : Prop := fnExactNewCacheRow.holds Try.pinned (OpenSpec.ofChange fnExactNewCacheWrong)

/-- 'laws.FnNewCache': WHATEVER THE INPUT: true; the input reads as it did. -/
def fnNewCacheSpec : ChangeSpec := { name := "fnNewCache", fn := fun _ => fun
  | [d] => { results := [.lit (.bool true)], args := [d] }
  | _ => none }
def fnNewCacheRow : OpenClaim := { program := "ytcaaficjcghheaa", sum := "f00b3e42d113828b87d4c13a8118b8cde9055e96599062008944fa295a7684a4", func := "loop.example/invertedpages/laws.FnNewCache", spec := "fnNewCache", unfollowed := true, recurses := true, apart := false }
def FnNewCacheSaid : Prop := fnNewCacheRow.holds Try.pinned (OpenSpec.ofChange fnNewCacheSpec)

/-- ITS FALSE NEIGHBOUR: 'it returns false'. Refute it at one input. -/
def fnNewCacheWrong : ChangeSpec := { name := "fnNewCache", fn := fun _ => fun
  | [d] => { results := [.lit (.bool false)], args := [d] }
  | _ => none }
def FnNewCacheWrongFalsely : Prop := fnNewCacheRow.holds Try.pinned (OpenSpec.ofChange fnNewCacheWrong)

/-- 'laws.FnExactCacheValid': WHATEVER THE INPUT: true; the input reads as it did. -/
def fnExactCacheValidSpec : ChangeSpec := { name := "fnExactCacheValid", fn := fun _ => fun
  | [d] => { results := [.lit (.bool true)], args := [d] }
  | _ => none }
def fnExactCacheValidRow : OpenClaim := { program := "ytcaaficjcghheaa", sum := "f00b3e42d113828b87d4c13a8118b8cde9055e96599062008944fa295a7684a4", func := "loop.example/invertedpages/laws.FnExactCacheValid", spec := "fnExactCacheValid", apart := false }
def FnExactCacheValidSaid : Prop := fnExactCacheValidRow.holds Try.pinned (OpenSpec.ofChange fnExactCacheValidSpec)

/-- ITS FALSE NEIGHBOUR: 'it returns false'. Refute it at one input. -/
def fnExactCacheValidWrong : ChangeSpec := { name := "fnExactCacheValid", fn := fun _ => fun
  | [d] => { results := [.lit (.bool false)], args := [d] }
  | _ => none }
def FnExactCacheValidWrongFalsely : Prop := fnExactCacheValidRow.holds Try.pinned (OpenSpec.ofChange fnExactCacheValidWrong)

/-- 'laws.FnFillAll': WHATEVER THE INPUT: true; the input reads as it did. -/
def fnFillAllSpec : ChangeSpec := { name := "fnFillAll", fn := fun _ => fun
  | [d] => { results := [.lit (.bool true)], args := [d] }
  | _ => none }
def fnFillAllRow : OpenClaim := { program := "ytcaaficjcghheaa", sum := "f00b3e42d113828b87d4c13a8118b8cde9055e96599062008944fa295a7684a4", func := "loop.example/invertedpages/laws.FnFillAll", spec := "fnFillAll", unfollowed := true, recurses := true, apart := false }
def FnFillAllSaid : Prop := fnFillAllRow.holds Try.pinned (OpenSpec.ofChange fnFillAllSpec)

/-- ITS FALSE NEIGHBOUR: 'it returns false'. Refute it at one input. -/
def fnFillAllWrong : ChangeSpec := { name := "fnFillAll", fn := fun _ => fun
  | [d] => { results := [.lit (.bool false)], args := [d] }
  | _ => none }
def FnFillAllWrongFalsely : Prop := fnFillAllRow.holds Try.pinned (OpenSpec.ofChange fnFillAllWrong)

/-- 'laws.FnExactVictimOf': WHATEVER THE INPUT: true; the input reads as it did. -/
def fnExactVictimOfSpec : ChangeSpec := { name := "fnExactVictimOf", fn := fun _ => fun
  | [d] => { results := [.lit (.bool true)], args := [d] }
  | _ => none }
def fnExactVictimOfRow : OpenClaim := { program := "ytcaaficjcghheaa", sum := "f00b3e42d113828b87d4c13a8118b8cde9055e96599062008944fa295a7684a4", func := "loop.example/invertedpages/laws.FnExactVictimOf", spec := "fnExactVictimOf", apart := false }
def FnExactVictimOfSaid : Prop := fnExactVictimOfRow.holds Try.pinned (OpenSpec.ofChange fnExactVictimOfSpec)

/-- ITS FALSE NEIGHBOUR: 'it returns false'. Refute it at one input. -/
def fnExactVictimOfWrong : ChangeSpec := { name := "fnExactVictimOf", fn := fun _ => fun
  | [d] => { results := [.lit (.bool false)], args := [d] }
  | _ => none }
def FnExactVictimOfWrongFalsely : Prop := fnExactVictimOfRow.holds Try.pinned (OpenSpec.ofChange fnExactVictimOfWrong)

/-- 'laws.FnExactFindLine': WHATEVER THE INPUT: true; the input reads as it did. -/
def fnExactFindLineSpec : ChangeSpec := { name := "fnExactFindLine", fn := fun _ => fun
  | [d1, d2, d3] => { results := [.lit (.bool true)], args := [d1, d2, d3] }
  | _ => none }
def fnExactFindLineRow : OpenClaim := { program := "ytcaaficjcghheaa", sum := "f00b3e42d113828b87d4c13a8118b8cde9055e96599062008944fa295a7684a4", func := "loop.example/invertedpages/laws.FnExactFindLine", spec := "fnExactFindLine", unfollowed := true, recurses := true, apart := false }
def FnExactFindLineSaid : Prop := fnExactFindLineRow.holds Try.pinned (OpenSpec.ofChange fnExactFindLineSpec)

/-- ITS FALSE NEIGHBOUR: 'it returns false'. Refute it at one input. -/
def fnExactFindLineWrong : ChangeSpec := { name := "fnExactFindLine", fn := fun _ => fun
  | [d1, d2, d3] => { results := [.lit (.bool false)], args := [d1, d2, d3] }
  | _ => none }
def FnExactFindLineWrongFalsely : Prop := fnExactFindLineRow.holds Try.pinned (OpenSpec.ofChange fnExactFindLineWrong)

/-- 'laws.FnVictimOf': WHATEVER THE INPUT: true; the input reads as it did. -/
def fnVictimOfSpec : ChangeSpec := { name := "fnVictimOf", fn := fun _ => fun
  | [d] => { results := [.lit (.bool true)], args := [d] }
  | _ => none }
def fnVictimOfRow : OpenClaim := { program := "ytcaaficjcghheaa", sum := "f00b3e42d113828b87d4c13a8118b8cde9055e96599062008944fa295a7684a4", func := "loop.example/invertedpages/laws.FnVictimOf", spec := "fnVictimOf", apart := false }
def FnVictimOfSaid : Prop := fnVictimOfRow.holds Try.pinned (OpenSpec.ofChange fnVictimOfSpec)

/-- ITS FALSE NEIGHBOUR: 'it returns false'. Refute it at one input. -/
def fnVictimOfWrong : ChangeSpec := { name := "fnVictimOf", fn := fun _ => fun
  | [d] => { results := [.lit (.bool false)], args := [d] }
  | _ => none }
def FnVictimOfWrongFalsely : Prop := fnVictimOfRow.holds Try.pinned (OpenSpec.ofChange fnVictimOfWrong)

/-- 'laws.FnCacheSame': WHATEVER THE INPUT: true; the input reads as it did. -/
def fnCacheSameSpec : ChangeSpec := { name := "fnCacheSame", fn := fun _ => fun
  | [d] => { results := [.lit (.bool true)], args := [d] }
  | _ => none }
def fnCacheSameRow : OpenClaim := { program := "ytcaaficjcghheaa", sum := "f00b3e42d113828b87d4c13a8118b8cde9055e96599062008944fa295a7684a4", func := "loop.example/invertedpages/laws.FnCacheSame", spec := "fnCacheSame", apart := false }
def FnCacheSameSaid : Prop := fnCacheSameRow.holds Try.pinned (OpenSpec.ofChange fnCacheSameSpec)

/-- ITS FALSE NEIGHBOUR: 'it returns false'. Refute it at one input. -/
def fnCacheSameWrong : ChangeSpec := { name := "fnCacheSame", fn := fun _ => fun
  | [d] => { results := [.lit (.bool false)], args := [d] }
  | _ => none }
def FnCacheSameWrongFalsely : Prop := fnCacheSameRow.holds Try.pinned (OpenSpec.ofChange fnCacheSameWrong)

/-- 'laws.FnFindLine': WHATEVER THE INPUT: true; the input reads as it did. -/
def fnFindLineSpec : ChangeSpec := { name := "fnFindLine", fn := fun _ => fun
  | [d] => { results := [.lit (.bool true)], args := [d] }
  | _ => none }
def fnFindLineRow : OpenClaim := { program := "ytcaaficjcghheaa", sum := "f00b3e42d113828b87d4c13a8118b8cde9055e96599062008944fa295a7684a4", func := "loop.example/invertedpages/laws.FnFindLine", spec := "fnFindLine", unfollowed := true, recurses := true, apart := false }
def FnFindLineSaid : Prop := fnFindLineRow.holds Try.pinned (OpenSpec.ofChange fnFindLineSpec)

/-- ITS FALSE NEIGHBOUR: 'it returns false'. Refute it at one input. -/
def fnFindLineWrong : ChangeSpec := { name := "fnFindLine", fn := fun _ => fun
  | [d] => { results := [.lit (.bool false)], args := [d] }
  | _ => none }
def FnFindLineWrongFalsely : Prop := fnFindLineRow.holds Try.pinned (OpenSpec.ofChange fnFindLineWrong)

/-- 'laws.FnSharedFits': WHATEVER THE INPUT: true; the input reads as it did. -/
def fnSharedFitsSpec : ChangeSpec := { name := "fnSharedFits", fn := fun _ => fun
  | [d] => { results := [.lit (.bool true)], args := [d] }
  | _ => none }
def fnSharedFitsRow : OpenClaim := { program := "ytcaaficjcghheaa", sum := "f00b3e42d113828b87d4c13a8118b8cde9055e96599062008944fa295a7684a4", func := "loop.example/invertedpages/laws.FnSharedFits", spec := "fnSharedFits", unfollowed := true, recurses := true, apart := false }
def FnSharedFitsSaid : Prop := fnSharedFitsRow.holds Try.pinned (OpenSpec.ofChange fnSharedFitsSpec)

/-- ITS FALSE NEIGHBOUR: 'it returns false'. Refute it at one input. -/
def fnSharedFitsWrong : ChangeSpec := { name := "fnSharedFits", fn := fun _ => fun
  | [d] => { results := [.lit (.bool false)], args := [d] }
  | _ => none }
def FnSharedFitsWrongFalsely : Prop := fnSharedFitsRow.holds Try.pinned (OpenSpec.ofChange fnSharedFitsWrong)

/-- 'laws.FnExactWireLine': WHATEVER THE INPUT: true; the input reads as it did. -/
def fnExactWireLineSpec : ChangeSpec := { name := "fnExactWireLine", fn := fun _ => fun
  | [d1, d2, d3] => { results := [.lit (.bool true)], args := [d1, d2, d3] }
  | _ => none }
def fnExactWireLineRow : OpenClaim := { program := "ytcaaficjcghheaa", sum := "f00b3e42d113828b87d4c13a8118b8cde9055e96599062008944fa295a7684a4", func := "loop.example/invertedpages/laws.FnExactWireLine", spec := "fnExactWireLine", apart := false }
def FnExactWireLineSaid : Prop := fnExactWireLineRow.holds Try.pinned (OpenSpec.ofChange fnExactWireLineSpec)

/-- ITS FALSE NEIGHBOUR: 'it returns false'. Refute it at one input. -/
def fnExactWireLineWrong : ChangeSpec := { name := "fnExactWireLine", fn := fun _ => fun
  | [d1, d2, d3] => { results := [.lit (.bool false)], args := [d1, d2, d3] }
  | _ => none }
def FnExactWireLineWrongFalsely : Prop := fnExactWireLineRow.holds Try.pinned (OpenSpec.ofChange fnExactWireLineWrong)

/-- 'laws.FnExactDropAll': WHATEVER THE INPUT: true; the input reads as it did. -/
def fnExactDropAllSpec : ChangeSpec := { name := "fnExactDropAll", fn := fun _ => fun
  | [d] => { results := [.lit (.bool true)], args := [d] }
  | _ => none }
def fnExactDropAllRow : OpenClaim := { program := "ytcaaficjcghheaa", sum := "f00b3e42d113828b87d4c13a8118b8cde9055e96599062008944fa295a7684a4", func := "loop.example/invertedpages/laws.FnExactDropAll", spec := "fnExactDropAll", unfollowed := true, recurses := true, apart := false }
def FnExactDropAllSaid : Prop := fnExactDropAllRow.holds Try.pinned (OpenSpec.ofChange fnExactDropAllSpec)

/-- ITS FALSE NEIGHBOUR: 'it returns false'. Refute it at one input. -/
def fnExactDropAllWrong : ChangeSpec := { name := "fnExactDropAll", fn := fun _ => fun
  | [d] => { results := [.lit (.bool false)], args := [d] }
  | _ => none }
def FnExactDropAllWrongFalsely : Prop := fnExactDropAllRow.holds Try.pinned (OpenSpec.ofChange fnExactDropAllWrong)

/- THE SECOND FORM. 'bulk': how many values and letters a reading holds, each counted each time it is reached (what is shared counts as often as it is met; a slice's spare places count too). A statement '..UptoSaid' is the law's where the arguments, and the package variables that the reading takes, are together of bulk at most 1048576: NARROWER than '..Said'. Prove '..Said' where nothing that the law and all that it calls make is longer than what came in: it says more and counts as full. Else prove '..UptoSaid'. A law counts once. -/
mutual
def uptoBulk {H : Type} : DataW H → Nat
  | .lit (.string bytes) => bytes.length + 1
  | .lit _ => 1
  | .nil => 1
  | .ptr d => uptoBulk d + 1
  | .slice elems spare => uptoBulkAll elems + uptoBulkAll spare + 1
  | .agg parts => uptoBulkAll parts + 1
  | .iface _ d => uptoBulk d + 1
  | .map entries => uptoBulkEntries entries + 1
  | .held _ => 1
def uptoBulkAll {H : Type} : List (DataW H) → Nat
  | [] => 0
  | d :: r => uptoBulk d + uptoBulkAll r
def uptoBulkEntries {H : Type} : List (Lit × DataW H) → Nat
  | [] => 0
  | x :: r => uptoBulkEntry x + uptoBulkEntries r
def uptoBulkEntry {H : Type} : Lit × DataW H → Nat
  | (.string bytes, d) => bytes.length + uptoBulk d + 1
  | (_, d) => uptoBulk d + 1
 end
def uptoSmall : (H : Type) → List (DataW H) → Bool := fun _ ds => decide (uptoBulkAll ds ≤ 1048576)
def OpenSpec.upto (s : _root_.Go.ChangeSpec) : _root_.Go.OpenSpec := { _root_.Go.OpenSpec.ofChange s with cond := some uptoSmall }

/-- 'laws.FnExactCacheSame', WHERE WHAT IT READS IS OF BULK AT MOST 1048576: true; the input reads as it did. -/
def fnExactCacheSameUptoRow : OpenClaim := { program := "ytcaaficjcghheaa", sum := "f00b3e42d113828b87d4c13a8118b8cde9055e96599062008944fa295a7684a4", func := "loop.example/invertedpages/laws.FnExactCacheSame", spec := "fnExactCacheSame", apart := false, narrowed := true }
def FnExactCacheSameUptoSaid : Prop := fnExactCacheSameUptoRow.holds Try.pinned (OpenSpec.upto fnExactCacheSameSpec)

/-- 'laws.FnExactNewCache', WHERE WHAT IT READS IS OF BULK AT MOST 1048576: true; the input reads as it did. -/
def fnExactNewCacheUptoRow : OpenClaim := { program := "ytcaaficjcghheaa", sum := "f00b3e42d113828b87d4c13a8118b8cde9055e96599062008944fa295a7684a4", func := "loop.example/invertedpages/laws.FnExactNewCache", spec := "fnExactNewCache", apart := false, narrowed := true }
def FnExactNewCacheUptoSaid : Prop := fnExactNewCacheUptoRow.holds Try.pinned (OpenSpec.upto fnExactNewCacheSpec)

/-- 'laws.FnNewCache', WHERE WHAT IT READS IS OF BULK AT MOST 1048576: true; the input reads as it did. -/
def fnNewCacheUptoRow : OpenClaim := { program := "ytcaaficjcghheaa", sum := "f00b3e42d113828b87d4c13a8118b8cde9055e96599062008944fa295a7684a4", func := "loop.example/invertedpages/laws.FnNewCache", spec := "fnNewCache", unfollowed := true, recurses := true, apart := false, narrowed := true }
def FnNewCacheUptoSaid : Prop := fnNewCacheUptoRow.holds Try.pinned (OpenSpec.upto fnNewCacheSpec)

/-- 'laws.FnExactCacheValid', WHERE WHAT IT READS IS OF BULK AT MOST 1048576: true; the input reads as it did. -/
def fnExactCacheValidUptoRow : OpenClaim := { program := "ytcaaficjcghheaa", sum := "f00b3e42d113828b87d4c13a8118b8cde9055e96599062008944fa295a7684a4", func := "loop.example/invertedpages/laws.FnExactCacheValid", spec := "fnExactCacheValid", apart := false, narrowed := true }
def FnExactCacheValidUptoSaid : Prop := fnExactCacheValidUptoRow.holds Try.pinned (OpenSpec.upto fnExactCacheValidSpec)

/-- 'laws.FnFillAll', WHERE WHAT IT READS IS OF BULK AT MOST 1048576: true; the input reads as it did. -/
def fnFillAllUptoRow : OpenClaim := { program := "ytcaaficjcghheaa", sum := "f00b3e42d113828b87d4c13a8118b8cde9055e96599062008944fa295a7684a4", func := "loop.example/invertedpages/laws.FnFillAll", spec := "fnFillAll", unfollowed := true, recurses := true, apart := false, narrowed := true }
def FnFillAllUptoSaid : Prop := fnFillAllUptoRow.holds Try.pinned (OpenSpec.upto fnFillAllSpec)

/-- 'laws.FnExactVictimOf', WHERE WHAT IT READS IS OF BULK AT MOST 1048576: true; the input reads as it did. -/
def fnExactVictimOfUptoRow : OpenClaim := { program := "ytcaaficjcghheaa", sum := "f00b3e42d113828b87d4c13a8118b8cde9055e96599062008944fa295a7684a4", func := "loop.example/invertedpages/laws.FnExactVictimOf", spec := "fnExactVictimOf", apart := false, narrowed := true }
def FnExactVictimOfUptoSaid : Prop := fnExactVictimOfUptoRow.holds Try.pinned (OpenSpec.upto fnExactVictimOfSpec)

/-- 'laws.FnExactFindLine', WHERE WHAT IT READS IS OF BULK AT MOST 1048576: true; the input reads as it did. -/
def fnExactFindLineUptoRow : OpenClaim := { program := "ytcaaficjcghheaa", sum := "f00b3e42d113828b87d4c13a8118b8cde9055e96599062008944fa295a7684a4", func := "loop.example/invertedpages/laws.FnExactFindLine", spec := "fnExactFindLine", unfollowed := true, recurses := true, apart := false, narrowed := true }
def FnExactFindLineUptoSaid : Prop := fnExactFindLineUptoRow.holds Try.pinned (OpenSpec.upto fnExactFindLineSpec)

/-- 'laws.FnVictimOf', WHERE WHAT IT READS IS OF BULK AT MOST 1048576: true; the input reads as it did. -/
def fnVictimOfUptoRow : OpenClaim := { program := "ytcaaficjcghheaa", sum := "f00b3e42d113828b87d4c13a8118b8cde9055e96599062008944fa295a7684a4", func := "loop.example/invertedpages/laws.FnVictimOf", spec := "fnVictimOf", apart := false, narrowed := true }
def FnVictimOfUptoSaid : Prop := fnVictimOfUptoRow.holds Try.pinned (OpenSpec.upto fnVictimOfSpec)

/-- 'laws.FnCacheSame', WHERE WHAT IT READS IS OF BULK AT MOST 1048576: true; the input reads as it did. -/
def fnCacheSameUptoRow : OpenClaim := { program := "ytcaaficjcghheaa", sum := "f00b3e42d113828b87d4c13a8118b8cde9055e96599062008944fa295a7684a4", func := "loop.example/invertedpages/laws.FnCacheSame", spec := "fnCacheSame", apart := false, narrowed := true }
def FnCacheSameUptoSaid : Prop := fnCacheSameUptoRow.holds Try.pinned (OpenSpec.upto fnCacheSameSpec)

/-- 'laws.FnFindLine', WHERE WHAT IT READS IS OF BULK AT MOST 1048576: true; the input reads as it did. -/
def fnFindLineUptoRow : OpenClaim := { program := "ytcaaficjcghheaa", sum := "f00b3e42d113828b87d4c13a8118b8cde9055e96599062008944fa295a7684a4", func := "loop.example/invertedpages/laws.FnFindLine", spec := "fnFindLine", unfollowed := true, recurses := true, apart := false, narrowed := true }
def FnFindLineUptoSaid : Prop := fnFindLineUptoRow.holds Try.pinned (OpenSpec.upto fnFindLineSpec)

/-- 'laws.FnSharedFits', WHERE WHAT IT READS IS OF BULK AT MOST 1048576: true; the input reads as it did. -/
def fnSharedFitsUptoRow : OpenClaim := { program := "ytcaaficjcghheaa", sum := "f00b3e42d113828b87d4c13a8118b8cde9055e96599062008944fa295a7684a4", func := "loop.example/invertedpages/laws.FnSharedFits", spec := "fnSharedFits", unfollowed := true, recurses := true, apart := false, narrowed := true }
def FnSharedFitsUptoSaid : Prop := fnSharedFitsUptoRow.holds Try.pinned (OpenSpec.upto fnSharedFitsSpec)

/-- 'laws.FnExactWireLine', WHERE WHAT IT READS IS OF BULK AT MOST 1048576: true; the input reads as it did. -/
def fnExactWireLineUptoRow : OpenClaim := { program := "ytcaaficjcghheaa", sum := "f00b3e42d113828b87d4c13a8118b8cde9055e96599062008944fa295a7684a4", func := "loop.example/invertedpages/laws.FnExactWireLine", spec := "fnExactWireLine", apart := false, narrowed := true }
def FnExactWireLineUptoSaid : Prop := fnExactWireLineUptoRow.holds Try.pinned (OpenSpec.upto fnExactWireLineSpec)

/-- 'laws.FnExactDropAll', WHERE WHAT IT READS IS OF BULK AT MOST 1048576: true; the input reads as it did. -/
def fnExactDropAllUptoRow : OpenClaim := { program := "ytcaaficjcghheaa", sum := "f00b3e42d113828b87d4c13a8118b8cde9055e96599062008944fa295a7684a4", func := "loop.example/invertedpages/laws.FnExactDropAll", spec := "fnExactDropAll", unfollowed := true, recurses := true, apart := false, narrowed := true }
def FnExactDropAllUptoSaid : Prop := fnExactDropAllUptoRow.holds Try.pinned (OpenSpec.upto fnExactDropAllSpec)

end Rows
end Go.Proofs.Ytcaaficjcghheaa
