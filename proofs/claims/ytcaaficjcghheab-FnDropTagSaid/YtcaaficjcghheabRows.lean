/-
  No cell of these rows narrows 'for every input' (looked for: loops, veiled, ifaces, maps, wideKeys, modest, calm, conditions, laid).
  DERIVED. THE GIVEN ROWS OF THIS SEAT. 13 by the template 'for every input the law returns true; each argument reads behind the call as it read before'; 0 by the template 'total and deterministic' (their statements: YtcaaficjcghheabTotals.lean).
  GIVEN WITH THE SEED: the statements are not yours to turn. If you find one false, say at which input.
  Laid BY PROGRAM, IN A SANDBOX (cutbox-rows.mjs): the forced cells as the released guide's own fill.sh prints them over the translation 8b26ba40bb87af5d… (all of the seat's roots in one cut). By AI agents, Wed Nov 11 2026. No macro, syntax, notation, axiom, sorry.
-/
import Derived.Test.YtcaaficjcghheabChecked
import GoSem.Claim
import GoSem.ClaimJoined
import GoSem.ClaimMapViews
import Derived.JoinedTies
import Derived.KernelRfl
namespace Go.Proofs.Ytcaaficjcghheab
/- THE CELL 'sum', in the pinned program and in every row, IS THE sha256 OF THE DUMP (.gsa) THAT YtcaaficjcghheabProg.lean LOADS. Nothing in Lean hashes anything: it is a label: what it is worth is what the hold of that sum in a sandbox is worth. -/
noncomputable def Try.pinned : Pinned := { name := "ytcaaficjcghheab", sum := "8b26ba40bb87af5d0b8db5ab96bd0a1e3ba6075e944082301e5d72f8d1d1e389", checked := Try.checked }
namespace Rows
def none {H : Type} : Left H := { results := [], args := [] }

/-- 'laws.FnDropWired': WHATEVER THE INPUT: true; the input reads as it did. -/
def fnDropWiredSpec : ChangeSpec := { name := "fnDropWired", fn := fun _ => fun
  | [d] => { results := [.lit (.bool true)], args := [d] }
  | _ => none }
def fnDropWiredRow : OpenClaim := { program := "ytcaaficjcghheab", sum := "8b26ba40bb87af5d0b8db5ab96bd0a1e3ba6075e944082301e5d72f8d1d1e389", func := "loop.example/invertedpages/laws.FnDropWired", spec := "fnDropWired", unfollowed := true, recurses := true, apart := false }
def FnDropWiredSaid : Prop := fnDropWiredRow.holds Try.pinned (OpenSpec.ofChange fnDropWiredSpec)

/-- ITS FALSE NEIGHBOUR: 'it returns false'. Refute it at one input. -/
def fnDropWiredWrong : ChangeSpec := { name := "fnDropWired", fn := fun _ => fun
  | [d] => { results := [.lit (.bool false)], args := [d] }
  | _ => none }
def FnDropWiredWrongFalsely : Prop := fnDropWiredRow.holds Try.pinned (OpenSpec.ofChange fnDropWiredWrong)

/-- 'laws.FnExactDropTag': WHATEVER THE INPUT: true; the input reads as it did. -/
def fnExactDropTagSpec : ChangeSpec := { name := "fnExactDropTag", fn := fun _ => fun
  | [d1, d2] => { results := [.lit (.bool true)], args := [d1, d2] }
  | _ => none }
def fnExactDropTagRow : OpenClaim := { program := "ytcaaficjcghheab", sum := "8b26ba40bb87af5d0b8db5ab96bd0a1e3ba6075e944082301e5d72f8d1d1e389", func := "loop.example/invertedpages/laws.FnExactDropTag", spec := "fnExactDropTag", unfollowed := true, recurses := true, apart := false }
def FnExactDropTagSaid : Prop := fnExactDropTagRow.holds Try.pinned (OpenSpec.ofChange fnExactDropTagSpec)

/-- ITS FALSE NEIGHBOUR: 'it returns false'. Refute it at one input. -/
def fnExactDropTagWrong : ChangeSpec := { name := "fnExactDropTag", fn := fun _ => fun
  | [d1, d2] => { results := [.lit (.bool false)], args := [d1, d2] }
  | _ => none }
def FnExactDropTagWrongFalsely : Prop := fnExactDropTagRow.holds Try.pinned (OpenSpec.ofChange fnExactDropTagWrong)

/-- 'laws.FnWireLine': WHATEVER THE INPUT: true; the input reads as it did. -/
def fnWireLineSpec : ChangeSpec := { name := "fnWireLine", fn := fun _ => fun
  | [d] => { results := [.lit (.bool true)], args := [d] }
  | _ => none }
def fnWireLineRow : OpenClaim := { program := "ytcaaficjcghheab", sum := "8b26ba40bb87af5d0b8db5ab96bd0a1e3ba6075e944082301e5d72f8d1d1e389", func := "loop.example/invertedpages/laws.FnWireLine", spec := "fnWireLine", apart := false }
def FnWireLineSaid : Prop := fnWireLineRow.holds Try.pinned (OpenSpec.ofChange fnWireLineSpec)

/-- ITS FALSE NEIGHBOUR: 'it returns false'. Refute it at one input. -/
def fnWireLineWrong : ChangeSpec := { name := "fnWireLine", fn := fun _ => fun
  | [d] => { results := [.lit (.bool false)], args := [d] }
  | _ => none }
def FnWireLineWrongFalsely : Prop := fnWireLineRow.holds Try.pinned (OpenSpec.ofChange fnWireLineWrong)

/-- 'laws.FnDropAll': WHATEVER THE INPUT: true; the input reads as it did. -/
def fnDropAllSpec : ChangeSpec := { name := "fnDropAll", fn := fun _ => fun
  | [d] => { results := [.lit (.bool true)], args := [d] }
  | _ => none }
def fnDropAllRow : OpenClaim := { program := "ytcaaficjcghheab", sum := "8b26ba40bb87af5d0b8db5ab96bd0a1e3ba6075e944082301e5d72f8d1d1e389", func := "loop.example/invertedpages/laws.FnDropAll", spec := "fnDropAll", unfollowed := true, recurses := true, apart := false }
def FnDropAllSaid : Prop := fnDropAllRow.holds Try.pinned (OpenSpec.ofChange fnDropAllSpec)

/-- ITS FALSE NEIGHBOUR: 'it returns false'. Refute it at one input. -/
def fnDropAllWrong : ChangeSpec := { name := "fnDropAll", fn := fun _ => fun
  | [d] => { results := [.lit (.bool false)], args := [d] }
  | _ => none }
def FnDropAllWrongFalsely : Prop := fnDropAllRow.holds Try.pinned (OpenSpec.ofChange fnDropAllWrong)

/-- 'laws.FnDropTag': WHATEVER THE INPUT: true; the input reads as it did. -/
def fnDropTagSpec : ChangeSpec := { name := "fnDropTag", fn := fun _ => fun
  | [d] => { results := [.lit (.bool true)], args := [d] }
  | _ => none }
def fnDropTagRow : OpenClaim := { program := "ytcaaficjcghheab", sum := "8b26ba40bb87af5d0b8db5ab96bd0a1e3ba6075e944082301e5d72f8d1d1e389", func := "loop.example/invertedpages/laws.FnDropTag", spec := "fnDropTag", unfollowed := true, recurses := true, apart := false }
def FnDropTagSaid : Prop := fnDropTagRow.holds Try.pinned (OpenSpec.ofChange fnDropTagSpec)

/-- ITS FALSE NEIGHBOUR: 'it returns false'. Refute it at one input. -/
def fnDropTagWrong : ChangeSpec := { name := "fnDropTag", fn := fun _ => fun
  | [d] => { results := [.lit (.bool false)], args := [d] }
  | _ => none }
def FnDropTagWrongFalsely : Prop := fnDropTagRow.holds Try.pinned (OpenSpec.ofChange fnDropTagWrong)

/-- 'laws.FnDropTwice': WHATEVER THE INPUT: true; the input reads as it did. -/
def fnDropTwiceSpec : ChangeSpec := { name := "fnDropTwice", fn := fun _ => fun
  | [d] => { results := [.lit (.bool true)], args := [d] }
  | _ => none }
def fnDropTwiceRow : OpenClaim := { program := "ytcaaficjcghheab", sum := "8b26ba40bb87af5d0b8db5ab96bd0a1e3ba6075e944082301e5d72f8d1d1e389", func := "loop.example/invertedpages/laws.FnDropTwice", spec := "fnDropTwice", unfollowed := true, recurses := true, apart := false }
def FnDropTwiceSaid : Prop := fnDropTwiceRow.holds Try.pinned (OpenSpec.ofChange fnDropTwiceSpec)

/-- ITS FALSE NEIGHBOUR: 'it returns false'. Refute it at one input. -/
def fnDropTwiceWrong : ChangeSpec := { name := "fnDropTwice", fn := fun _ => fun
  | [d] => { results := [.lit (.bool false)], args := [d] }
  | _ => none }
def FnDropTwiceWrongFalsely : Prop := fnDropTwiceRow.holds Try.pinned (OpenSpec.ofChange fnDropTwiceWrong)

/-- 'laws.FnFillClash': WHATEVER THE INPUT: true; the input reads as it did. -/
def fnFillClashSpec : ChangeSpec := { name := "fnFillClash", fn := fun _ => fun
  | [d] => { results := [.lit (.bool true)], args := [d] }
  | _ => none }
def fnFillClashRow : OpenClaim := { program := "ytcaaficjcghheab", sum := "8b26ba40bb87af5d0b8db5ab96bd0a1e3ba6075e944082301e5d72f8d1d1e389", func := "loop.example/invertedpages/laws.FnFillClash", spec := "fnFillClash", unfollowed := true, recurses := true, apart := false }
def FnFillClashSaid : Prop := fnFillClashRow.holds Try.pinned (OpenSpec.ofChange fnFillClashSpec)

/-- ITS FALSE NEIGHBOUR: 'it returns false'. Refute it at one input. -/
def fnFillClashWrong : ChangeSpec := { name := "fnFillClash", fn := fun _ => fun
  | [d] => { results := [.lit (.bool false)], args := [d] }
  | _ => none }
def FnFillClashWrongFalsely : Prop := fnFillClashRow.holds Try.pinned (OpenSpec.ofChange fnFillClashWrong)

/-- 'laws.FnFillLine': WHATEVER THE INPUT: true; the input reads as it did. -/
def fnFillLineSpec : ChangeSpec := { name := "fnFillLine", fn := fun _ => fun
  | [d] => { results := [.lit (.bool true)], args := [d] }
  | _ => none }
def fnFillLineRow : OpenClaim := { program := "ytcaaficjcghheab", sum := "8b26ba40bb87af5d0b8db5ab96bd0a1e3ba6075e944082301e5d72f8d1d1e389", func := "loop.example/invertedpages/laws.FnFillLine", spec := "fnFillLine", unfollowed := true, recurses := true, apart := false }
def FnFillLineSaid : Prop := fnFillLineRow.holds Try.pinned (OpenSpec.ofChange fnFillLineSpec)

/-- ITS FALSE NEIGHBOUR: 'it returns false'. Refute it at one input. -/
def fnFillLineWrong : ChangeSpec := { name := "fnFillLine", fn := fun _ => fun
  | [d] => { results := [.lit (.bool false)], args := [d] }
  | _ => none }
def FnFillLineWrongFalsely : Prop := fnFillLineRow.holds Try.pinned (OpenSpec.ofChange fnFillLineWrong)

/-- 'laws.FnWireFill': WHATEVER THE INPUT: true; the input reads as it did. -/
def fnWireFillSpec : ChangeSpec := { name := "fnWireFill", fn := fun _ => fun
  | [d] => { results := [.lit (.bool true)], args := [d] }
  | _ => none }
def fnWireFillRow : OpenClaim := { program := "ytcaaficjcghheab", sum := "8b26ba40bb87af5d0b8db5ab96bd0a1e3ba6075e944082301e5d72f8d1d1e389", func := "loop.example/invertedpages/laws.FnWireFill", spec := "fnWireFill", unfollowed := true, recurses := true, apart := false }
def FnWireFillSaid : Prop := fnWireFillRow.holds Try.pinned (OpenSpec.ofChange fnWireFillSpec)

/-- ITS FALSE NEIGHBOUR: 'it returns false'. Refute it at one input. -/
def fnWireFillWrong : ChangeSpec := { name := "fnWireFill", fn := fun _ => fun
  | [d] => { results := [.lit (.bool false)], args := [d] }
  | _ => none }
def FnWireFillWrongFalsely : Prop := fnWireFillRow.holds Try.pinned (OpenSpec.ofChange fnWireFillWrong)

/-- 'laws.FnExactDropPage': WHATEVER THE INPUT: true; the input reads as it did. -/
def fnExactDropPageSpec : ChangeSpec := { name := "fnExactDropPage", fn := fun _ => fun
  | [d1, d2, d3] => { results := [.lit (.bool true)], args := [d1, d2, d3] }
  | _ => none }
def fnExactDropPageRow : OpenClaim := { program := "ytcaaficjcghheab", sum := "8b26ba40bb87af5d0b8db5ab96bd0a1e3ba6075e944082301e5d72f8d1d1e389", func := "loop.example/invertedpages/laws.FnExactDropPage", spec := "fnExactDropPage", unfollowed := true, recurses := true, apart := false }
def FnExactDropPageSaid : Prop := fnExactDropPageRow.holds Try.pinned (OpenSpec.ofChange fnExactDropPageSpec)

/-- ITS FALSE NEIGHBOUR: 'it returns false'. Refute it at one input. -/
def fnExactDropPageWrong : ChangeSpec := { name := "fnExactDropPage", fn := fun _ => fun
  | [d1, d2, d3] => { results := [.lit (.bool false)], args := [d1, d2, d3] }
  | _ => none }
def FnExactDropPageWrongFalsely : Prop := fnExactDropPageRow.holds Try.pinned (OpenSpec.ofChange fnExactDropPageWrong)

/-- 'laws.FnDropFill': WHATEVER THE INPUT: true; the input reads as it did. -/
def fnDropFillSpec : ChangeSpec := { name := "fnDropFill", fn := fun _ => fun
  | [d] => { results := [.lit (.bool true)], args := [d] }
  | _ => none }
def fnDropFillRow : OpenClaim := { program := "ytcaaficjcghheab", sum := "8b26ba40bb87af5d0b8db5ab96bd0a1e3ba6075e944082301e5d72f8d1d1e389", func := "loop.example/invertedpages/laws.FnDropFill", spec := "fnDropFill", unfollowed := true, recurses := true, apart := false }
def FnDropFillSaid : Prop := fnDropFillRow.holds Try.pinned (OpenSpec.ofChange fnDropFillSpec)

/-- ITS FALSE NEIGHBOUR: 'it returns false'. Refute it at one input. -/
def fnDropFillWrong : ChangeSpec := { name := "fnDropFill", fn := fun _ => fun
  | [d] => { results := [.lit (.bool false)], args := [d] }
  | _ => none }
def FnDropFillWrongFalsely : Prop := fnDropFillRow.holds Try.pinned (OpenSpec.ofChange fnDropFillWrong)

/-- 'laws.FnExactFillLine': WHATEVER THE INPUT: true; the input reads as it did. -/
def fnExactFillLineSpec : ChangeSpec := { name := "fnExactFillLine", fn := fun _ => fun
  | [d1, d2] => { results := [.lit (.bool true)], args := [d1, d2] }
  | _ => none }
def fnExactFillLineRow : OpenClaim := { program := "ytcaaficjcghheab", sum := "8b26ba40bb87af5d0b8db5ab96bd0a1e3ba6075e944082301e5d72f8d1d1e389", func := "loop.example/invertedpages/laws.FnExactFillLine", spec := "fnExactFillLine", unfollowed := true, recurses := true, apart := false }
def FnExactFillLineSaid : Prop := fnExactFillLineRow.holds Try.pinned (OpenSpec.ofChange fnExactFillLineSpec)

/-- ITS FALSE NEIGHBOUR: 'it returns false'. Refute it at one input. -/
def fnExactFillLineWrong : ChangeSpec := { name := "fnExactFillLine", fn := fun _ => fun
  | [d1, d2] => { results := [.lit (.bool false)], args := [d1, d2] }
  | _ => none }
def FnExactFillLineWrongFalsely : Prop := fnExactFillLineRow.holds Try.pinned (OpenSpec.ofChange fnExactFillLineWrong)

/-- 'laws.FnDropPage': WHATEVER THE INPUT: true; the input reads as it did. -/
def fnDropPageSpec : ChangeSpec := { name := "fnDropPage", fn := fun _ => fun
  | [d] => { results := [.lit (.bool true)], args := [d] }
  | _ => none }
def fnDropPageRow : OpenClaim := { program := "ytcaaficjcghheab", sum := "8b26ba40bb87af5d0b8db5ab96bd0a1e3ba6075e944082301e5d72f8d1d1e389", func := "loop.example/invertedpages/laws.FnDropPage", spec := "fnDropPage", unfollowed := true, recurses := true, apart := false }
def FnDropPageSaid : Prop := fnDropPageRow.holds Try.pinned (OpenSpec.ofChange fnDropPageSpec)

/-- ITS FALSE NEIGHBOUR: 'it returns false'. Refute it at one input. -/
def fnDropPageWrong : ChangeSpec := { name := "fnDropPage", fn := fun _ => fun
  | [d] => { results := [.lit (.bool false)], args := [d] }
  | _ => none }
def FnDropPageWrongFalsely : Prop := fnDropPageRow.holds Try.pinned (OpenSpec.ofChange fnDropPageWrong)

/- THE SECOND FORM. 'bulk': how many values and letters a reading holds, each counted each time it is reached (what is shared counts as often as it is met; a slice's spare places count too). A statement '..UptoSaid' is the law's where the arguments, and the package variables that the reading takes, are together of bulk at most 1048576: NARROWER than '..Said'. Prove '..Said' where nothing that the law and all that it calls make is longer than what came in: it says more and counts as full. Else prove '..UptoSaid'. A law counts once. -/
mutual
def uptoBulk {H : Type} : DataW H → Nat
  | .lit (.string bytes) => bytes.length + 1
  | .lit _ => 1
  | .nil => 1
  | .ptr d => uptoBulk d + 1
  | .slice elems spare => uptoBulkAll elems + uptoBulkAll spare + 1
  | .agg parts => uptoBulkAll parts + 1
  | .iface _ d => uptoBulk d + 1
  | .map entries => uptoBulkEntries entries + 1
  | .held _ => 1
def uptoBulkAll {H : Type} : List (DataW H) → Nat
  | [] => 0
  | d :: r => uptoBulk d + uptoBulkAll r
def uptoBulkEntries {H : Type} : List (Lit × DataW H) → Nat
  | [] => 0
  | x :: r => uptoBulkEntry x + uptoBulkEntries r
def uptoBulkEntry {H : Type} : Lit × DataW H → Nat
  | (.string bytes, d) => bytes.length + uptoBulk d + 1
  | (_, d) => uptoBulk d + 1
 end
def uptoSmall : (H : Type) → List (DataW H) → Bool := fun _ ds => decide (uptoBulkAll ds ≤ 1048576)
def OpenSpec.upto (s : _root_.Go.ChangeSpec) : _root_.Go.OpenSpec := { _root_.Go.OpenSpec.ofChange s with cond := some uptoSmall }

/-- 'laws.FnDropWired', WHERE WHAT IT READS IS OF BULK AT MOST 1048576: true; the input reads as it did. -/
def fnDropWiredUptoRow : OpenClaim := { program := "ytcaaficjcghheab", sum := "8b26ba40bb87af5d0b8db5ab96bd0a1e3ba6075e944082301e5d72f8d1d1e389", func := "loop.example/invertedpages/laws.FnDropWired", spec := "fnDropWired", unfollowed := true, recurses := true, apart := false, narrowed := true }
def FnDropWiredUptoSaid : Prop := fnDropWiredUptoRow.holds Try.pinned (OpenSpec.upto fnDropWiredSpec)

/-- 'laws.FnExactDropTag', WHERE WHAT IT READS IS OF BULK AT MOST 1048576: true; the input reads as it did. -/
def fnExactDropTagUptoRow : OpenClaim := { program := "ytcaaficjcghheab", sum := "8b26ba40bb87af5d0b8db5ab96bd0a1e3ba6075e944082301e5d72f8d1d1e389", func := "loop.example/invertedpages/laws.FnExactDropTag", spec := "fnExactDropTag", unfollowed := true, recurses := true, apart := false, narrowed := true }
def FnExactDropTagUptoSaid : Prop := fnExactDropTagUptoRow.holds Try.pinned (OpenSpec.upto fnExactDropTagSpec)

/-- 'laws.FnWireLine', WHERE WHAT IT READS IS OF BULK AT MOST 1048576: true; the input reads as it did. -/
def fnWireLineUptoRow : OpenClaim := { program := "ytcaaficjcghheab", sum := "8b26ba40bb87af5d0b8db5ab96bd0a1e3ba6075e944082301e5d72f8d1d1e389", func := "loop.example/invertedpages/laws.FnWireLine", spec := "fnWireLine", apart := false, narrowed := true }
def FnWireLineUptoSaid : Prop := fnWireLineUptoRow.holds Try.pinned (OpenSpec.upto fnWireLineSpec)

/-- 'laws.FnDropAll', WHERE WHAT IT READS IS OF BULK AT MOST 1048576: true; the input reads as it did. -/
def fnDropAllUptoRow : OpenClaim := { program := "ytcaaficjcghheab", sum := "8b26ba40bb87af5d0b8db5ab96bd0a1e3ba6075e944082301e5d72f8d1d1e389", func := "loop.example/invertedpages/laws.FnDropAll", spec := "fnDropAll", unfollowed := true, recurses := true, apart := false, narrowed := true }
def FnDropAllUptoSaid : Prop := fnDropAllUptoRow.holds Try.pinned (OpenSpec.upto fnDropAllSpec)

/-- 'laws.FnDropTag', WHERE WHAT IT READS IS OF BULK AT MOST 1048576: true; the input reads as it did. -/
def fnDropTagUptoRow : OpenClaim := { program := "ytcaaficjcghheab", sum := "8b26ba40bb87af5d0b8db5ab96bd0a1e3ba6075e944082301e5d72f8d1d1e389", func := "loop.example/invertedpages/laws.FnDropTag", spec := "fnDropTag", unfollowed := true, recurses := true, apart := false, narrowed := true }
def FnDropTagUptoSaid : Prop := fnDropTagUptoRow.holds Try.pinned (OpenSpec.upto fnDropTagSpec)

/-- 'laws.FnDropTwice', WHERE WHAT IT READS IS OF BULK AT MOST 1048576: true; the input reads as it did. -/
def fnDropTwiceUptoRow : OpenClaim := { program := "ytcaaficjcghheab", sum := "8b26ba40bb87af5d0b8db5ab96bd0a1e3ba6075e944082301e5d72f8d1d1e389", func := "loop.example/invertedpages/laws.FnDropTwice", spec := "fnDropTwice", unfollowed := true, recurses := true, apart := false, narrowed := true }
def FnDropTwiceUptoSaid : Prop := fnDropTwiceUptoRow.holds Try.pinned (OpenSpec.upto fnDropTwiceSpec)

/-- 'laws.FnFillClash', WHERE WHAT IT READS IS OF BULK AT MOST 1048576: true; the input reads as it did. -/
def fnFillClashUptoRow : OpenClaim := { program := "ytcaaficjcghheab", sum := "8b26ba40bb87af5d0b8db5ab96bd0a1e3ba6075e944082301e5d72f8d1d1e389", func := "loop.example/invertedpages/laws.FnFillClash", spec := "fnFillClash", unfollowed := true, recurses := true, apart := false, narrowed := true }
def FnFillClashUptoSaid : Prop := fnFillClashUptoRow.holds Try.pinned (OpenSpec.upto fnFillClashSpec)

/-- 'laws.FnFillLine', WHERE WHAT IT READS IS OF BULK AT MOST 1048576: true; the input reads as it did. -/
def fnFillLineUptoRow : OpenClaim := { program := "ytcaaficjcghheab", sum := "8b26ba40bb87af5d0b8db5ab96bd0a1e3ba6075e944082301e5d72f8d1d1e389", func := "loop.example/invertedpages/laws.FnFillLine", spec := "fnFillLine", unfollowed := true, recurses := true, apart := false, narrowed := true }
def FnFillLineUptoSaid : Prop := fnFillLineUptoRow.holds Try.pinned (OpenSpec.upto fnFillLineSpec)

/-- 'laws.FnWireFill', WHERE WHAT IT READS IS OF BULK AT MOST 1048576: true; the input reads as it did. -/
def fnWireFillUptoRow : OpenClaim := { program := "ytcaaficjcghheab", sum := "8b26ba40bb87af5d0b8db5ab96bd0a1e3ba6075e944082301e5d72f8d1d1e389", func := "loop.example/invertedpages/laws.FnWireFill", spec := "fnWireFill", unfollowed := true, recurses := true, apart := false, narrowed := true }
def FnWireFillUptoSaid : Prop := fnWireFillUptoRow.holds Try.pinned (OpenSpec.upto fnWireFillSpec)

/-- 'laws.FnExactDropPage', WHERE WHAT IT READS IS OF BULK AT MOST 1048576: true; the input reads as it did. -/
def fnExactDropPageUptoRow : OpenClaim := { program := "ytcaaficjcghheab", sum := "8b26ba40bb87af5d0b8db5ab96bd0a1e3ba6075e944082301e5d72f8d1d1e389", func := "loop.example/invertedpages/laws.FnExactDropPage", spec := "fnExactDropPage", unfollowed := true, recurses := true, apart := false, narrowed := true }
def FnExactDropPageUptoSaid : Prop := fnExactDropPageUptoRow.holds Try.pinned (OpenSpec.upto fnExactDropPageSpec)

/-- 'laws.FnDropFill', WHERE WHAT IT READS IS OF BULK AT MOST 1048576: true; the input reads as it did. -/
def fnDropFillUptoRow : OpenClaim := { program := "ytcaaficjcghheab", sum := "8b26ba40bb87af5d0b8db5ab96bd0a1e3ba6075e944082301e5d72f8d1d1e389", func := "loop.example/invertedpages/laws.FnDropFill", spec := "fnDropFill", unfollowed := true, recurses := true, apart := false, narrowed := true }
def FnDropFillUptoSaid : Prop := fnDropFillUptoRow.holds Try.pinned (OpenSpec.upto fnDropFillSpec)

/-- 'laws.FnExactFillLine', WHERE WHAT IT READS IS OF BULK AT MOST 1048576: true; the input reads as it did. -/
def fnExactFillLineUptoRow : OpenClaim := { program := "ytcaaficjcghheab", sum := "8b26ba40bb87af5d0b8db5ab96bd0a1e3ba6075e944082301e5d72f8d1d1e389", func := "loop.example/invertedpages/laws.FnExactFillLine", spec := "fnExactFillLine", unfollowed := true, recurses := true, apart := false, narrowed := true }
def FnExactFillLineUptoSaid : Prop := fnExactFillLineUptoRow.holds Try.pinned (OpenSpec.upto fnExactFillLineSpec)

/-- 'laws.FnDropPage', WHERE WHAT IT READS IS OF BULK AT MOST 1048576: true; the input reads as it did. -/
def fnDropPageUptoRow : OpenClaim := { program := "ytcaaficjcghheab", sum := "8b26ba40bb87af5d0b8db5ab96bd0a1e3ba6075e944082301e5d72f8d1d1e389", func := "loop.example/invertedpages/laws.FnDropPage", spec := "fnDropPage", unfollowed := true, recurses := true, apart := false, narrowed := true }
def FnDropPageUptoSaid : Prop := fnDropPageUptoRow.holds Try.pinned (OpenSpec.upto fnDropPageSpec)

end Rows
end Go.Proofs.Ytcaaficjcghheab
