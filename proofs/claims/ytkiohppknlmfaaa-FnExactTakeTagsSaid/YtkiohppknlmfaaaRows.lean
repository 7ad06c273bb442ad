/-
  No cell of these rows narrows 'for every input' (looked for: loops, veiled, ifaces, maps, wideKeys, modest, calm, conditions, laid).
  DERIVED. THE GIVEN ROWS OF THIS SEAT. 19 by the template 'for every input the law returns true; each argument reads behind the call as it read before'; 0 by the template 'total and deterministic' (their statements: YtkiohppknlmfaaaTotals.lean).
  GIVEN WITH THE SEED: the statements are not yours to turn. If you find one false, say at which input.
  Laid BY PROGRAM, IN A SANDBOX (cutbox-rows.mjs): the forced cells as the released guide's own fill.sh prints them over the translation b8cf8e9e7abcca05… (all of the seat's roots in one cut). By AI agents, Wed Nov 11 2026. No macro, syntax, notation, axiom, sorry.
-/
import Derived.Test.YtkiohppknlmfaaaChecked
import GoSem.Claim
import GoSem.ClaimJoined
import GoSem.ClaimMapViews
import Derived.JoinedTies
import Derived.KernelRfl
namespace Go.Proofs.Ytkiohppknlmfaaa
/- THE CELL 'sum', in the pinned program and in every row, IS THE sha256 OF THE DUMP (.gsa) THAT YtkiohppknlmfaaaProg.lean LOADS. Nothing in Lean hashes anything: it is a label: what it is worth is what the hold of that sum in a sandbox is worth. -/
noncomputable def Try.pinned : Pinned := { name := "ytkiohppknlmfaaa", sum := "b8cf8e9e7abcca053b9b326529ea6b4966f6167c8afa6f52d7495ac10ee1b312", checked := Try.checked }
namespace Rows
def none {H : Type} : Left H := { results := [], args := [] }

/-- 'laws.FnExactSpaceOf': WHATEVER THE INPUT: true; the input reads as it did. -/
def fnExactSpaceOfSpec : ChangeSpec := { name := "fnExactSpaceOf", fn := fun _ => fun
  | [d1, d2] => { results := [.lit (.bool true)], args := [d1, d2] }
  | _ => none }
def fnExactSpaceOfRow : OpenClaim := { program := "ytkiohppknlmfaaa", sum := "b8cf8e9e7abcca053b9b326529ea6b4966f6167c8afa6f52d7495ac10ee1b312", func := "loop.example/invertedpages/laws.FnExactSpaceOf", spec := "fnExactSpaceOf", apart := false }
def FnExactSpaceOfSaid : Prop := fnExactSpaceOfRow.holds Try.pinned (OpenSpec.ofChange fnExactSpaceOfSpec)

/-- ITS FALSE NEIGHBOUR: 'it returns false'. Refute it at one input. -/
def fnExactSpaceOfWrong : ChangeSpec := { name := "fnExactSpaceOf", fn := fun _ => fun
  | [d1, d2] => { results := [.lit (.bool false)], args := [d1, d2] }
  | _ => none }
def FnExactSpaceOfWrongFalsely : Prop := fnExactSpaceOfRow.holds Try.pinned (OpenSpec.ofChange fnExactSpaceOfWrong)

/-- 'laws.FnNewTags': WHATEVER THE INPUT: true; the input reads as it did. -/
def fnNewTagsSpec : ChangeSpec := { name := "fnNewTags", fn := fun _ => fun
  | [d] => { results := [.lit (.bool true)], args := [d] }
  | _ => none }
def fnNewTagsRow : OpenClaim := { program := "ytkiohppknlmfaaa", sum := "b8cf8e9e7abcca053b9b326529ea6b4966f6167c8afa6f52d7495ac10ee1b312", func := "loop.example/invertedpages/laws.FnNewTags", spec := "fnNewTags", unfollowed := true, recurses := true, apart := false }
def FnNewTagsSaid : Prop := fnNewTagsRow.holds Try.pinned (OpenSpec.ofChange fnNewTagsSpec)

/-- ITS FALSE NEIGHBOUR: 'it returns false'. Refute it at one input. -/
def fnNewTagsWrong : ChangeSpec := { name := "fnNewTags", fn := fun _ => fun
  | [d] => { results := [.lit (.bool false)], args := [d] }
  | _ => none }
def FnNewTagsWrongFalsely : Prop := fnNewTagsRow.holds Try.pinned (OpenSpec.ofChange fnNewTagsWrong)

/-- 'laws.FnTagOne': WHATEVER THE INPUT: true; the input reads as it did. -/
def fnTagOneSpec : ChangeSpec := { name := "fnTagOne", fn := fun _ => fun
  | [d] => { results := [.lit (.bool true)], args := [d] }
  | _ => none }
def fnTagOneRow : OpenClaim := { program := "ytkiohppknlmfaaa", sum := "b8cf8e9e7abcca053b9b326529ea6b4966f6167c8afa6f52d7495ac10ee1b312", func := "loop.example/invertedpages/laws.FnTagOne", spec := "fnTagOne", unfollowed := true, recurses := true, apart := false }
def FnTagOneSaid : Prop := fnTagOneRow.holds Try.pinned (OpenSpec.ofChange fnTagOneSpec)

/-- ITS FALSE NEIGHBOUR: 'it returns false'. Refute it at one input. -/
def fnTagOneWrong : ChangeSpec := { name := "fnTagOne", fn := fun _ => fun
  | [d] => { results := [.lit (.bool false)], args := [d] }
  | _ => none }
def FnTagOneWrongFalsely : Prop := fnTagOneRow.holds Try.pinned (OpenSpec.ofChange fnTagOneWrong)

/-- 'laws.FnExactTagOf': WHATEVER THE INPUT: true; the input reads as it did. -/
def fnExactTagOfSpec : ChangeSpec := { name := "fnExactTagOf", fn := fun _ => fun
  | [d1, d2] => { results := [.lit (.bool true)], args := [d1, d2] }
  | _ => none }
def fnExactTagOfRow : OpenClaim := { program := "ytkiohppknlmfaaa", sum := "b8cf8e9e7abcca053b9b326529ea6b4966f6167c8afa6f52d7495ac10ee1b312", func := "loop.example/invertedpages/laws.FnExactTagOf", spec := "fnExactTagOf", unfollowed := true, recurses := true, apart := false }
def FnExactTagOfSaid : Prop := fnExactTagOfRow.holds Try.pinned (OpenSpec.ofChange fnExactTagOfSpec)

/-- ITS FALSE NEIGHBOUR: 'it returns false'. Refute it at one input. -/
def fnExactTagOfWrong : ChangeSpec := { name := "fnExactTagOf", fn := fun _ => fun
  | [d1, d2] => { results := [.lit (.bool false)], args := [d1, d2] }
  | _ => none }
def FnExactTagOfWrongFalsely : Prop := fnExactTagOfRow.holds Try.pinned (OpenSpec.ofChange fnExactTagOfWrong)

/-- 'laws.FnTagsFew': WHATEVER THE INPUT: true; the input reads as it did. -/
def fnTagsFewSpec : ChangeSpec := { name := "fnTagsFew", fn := fun _ => fun
  | [d] => { results := [.lit (.bool true)], args := [d] }
  | _ => none }
def fnTagsFewRow : OpenClaim := { program := "ytkiohppknlmfaaa", sum := "b8cf8e9e7abcca053b9b326529ea6b4966f6167c8afa6f52d7495ac10ee1b312", func := "loop.example/invertedpages/laws.FnTagsFew", spec := "fnTagsFew", unfollowed := true, recurses := true, apart := false }
def FnTagsFewSaid : Prop := fnTagsFewRow.holds Try.pinned (OpenSpec.ofChange fnTagsFewSpec)

/-- ITS FALSE NEIGHBOUR: 'it returns false'. Refute it at one input. -/
def fnTagsFewWrong : ChangeSpec := { name := "fnTagsFew", fn := fun _ => fun
  | [d] => { results := [.lit (.bool false)], args := [d] }
  | _ => none }
def FnTagsFewWrongFalsely : Prop := fnTagsFewRow.holds Try.pinned (OpenSpec.ofChange fnTagsFewWrong)

/-- 'laws.FnOwnOrder': WHATEVER THE INPUT: true; the input reads as it did. -/
def fnOwnOrderSpec : ChangeSpec := { name := "fnOwnOrder", fn := fun _ => fun
  | [d] => { results := [.lit (.bool true)], args := [d] }
  | _ => none }
def fnOwnOrderRow : OpenClaim := { program := "ytkiohppknlmfaaa", sum := "b8cf8e9e7abcca053b9b326529ea6b4966f6167c8afa6f52d7495ac10ee1b312", func := "loop.example/invertedpages/laws.FnOwnOrder", spec := "fnOwnOrder", apart := false }
def FnOwnOrderSaid : Prop := fnOwnOrderRow.holds Try.pinned (OpenSpec.ofChange fnOwnOrderSpec)

/-- ITS FALSE NEIGHBOUR: 'it returns false'. Refute it at one input. -/
def fnOwnOrderWrong : ChangeSpec := { name := "fnOwnOrder", fn := fun _ => fun
  | [d] => { results := [.lit (.bool false)], args := [d] }
  | _ => none }
def FnOwnOrderWrongFalsely : Prop := fnOwnOrderRow.holds Try.pinned (OpenSpec.ofChange fnOwnOrderWrong)

/-- 'laws.FnTagsSame': WHATEVER THE INPUT: true; the input reads as it did. -/
def fnTagsSameSpec : ChangeSpec := { name := "fnTagsSame", fn := fun _ => fun
  | [d] => { results := [.lit (.bool true)], args := [d] }
  | _ => none }
def fnTagsSameRow : OpenClaim := { program := "ytkiohppknlmfaaa", sum := "b8cf8e9e7abcca053b9b326529ea6b4966f6167c8afa6f52d7495ac10ee1b312", func := "loop.example/invertedpages/laws.FnTagsSame", spec := "fnTagsSame", apart := false }
def FnTagsSameSaid : Prop := fnTagsSameRow.holds Try.pinned (OpenSpec.ofChange fnTagsSameSpec)

/-- ITS FALSE NEIGHBOUR: 'it returns false'. Refute it at one input. -/
def fnTagsSameWrong : ChangeSpec := { name := "fnTagsSame", fn := fun _ => fun
  | [d] => { results := [.lit (.bool false)], args := [d] }
  | _ => none }
def FnTagsSameWrongFalsely : Prop := fnTagsSameRow.holds Try.pinned (OpenSpec.ofChange fnTagsSameWrong)

/-- 'laws.FnSpaceOf': WHATEVER THE INPUT: true; the input reads as it did. -/
def fnSpaceOfSpec : ChangeSpec := { name := "fnSpaceOf", fn := fun _ => fun
  | [d] => { results := [.lit (.bool true)], args := [d] }
  | _ => none }
def fnSpaceOfRow : OpenClaim := { program := "ytkiohppknlmfaaa", sum := "b8cf8e9e7abcca053b9b326529ea6b4966f6167c8afa6f52d7495ac10ee1b312", func := "loop.example/invertedpages/laws.FnSpaceOf", spec := "fnSpaceOf", unfollowed := true, recurses := true, apart := false }
def FnSpaceOfSaid : Prop := fnSpaceOfRow.holds Try.pinned (OpenSpec.ofChange fnSpaceOfSpec)

/-- ITS FALSE NEIGHBOUR: 'it returns false'. Refute it at one input. -/
def fnSpaceOfWrong : ChangeSpec := { name := "fnSpaceOf", fn := fun _ => fun
  | [d] => { results := [.lit (.bool false)], args := [d] }
  | _ => none }
def FnSpaceOfWrongFalsely : Prop := fnSpaceOfRow.holds Try.pinned (OpenSpec.ofChange fnSpaceOfWrong)

/-- 'laws.FnExactLeaveTag': WHATEVER THE INPUT: true; the input reads as it did. -/
def fnExactLeaveTagSpec : ChangeSpec := { name := "fnExactLeaveTag", fn := fun _ => fun
  | [d1, d2] => { results := [.lit (.bool true)], args := [d1, d2] }
  | _ => none }
def fnExactLeaveTagRow : OpenClaim := { program := "ytkiohppknlmfaaa", sum := "b8cf8e9e7abcca053b9b326529ea6b4966f6167c8afa6f52d7495ac10ee1b312", func := "loop.example/invertedpages/laws.FnExactLeaveTag", spec := "fnExactLeaveTag", unfollowed := true, recurses := true, apart := false }
def FnExactLeaveTagSaid : Prop := fnExactLeaveTagRow.holds Try.pinned (OpenSpec.ofChange fnExactLeaveTagSpec)

/-- ITS FALSE NEIGHBOUR: 'it returns false'. Refute it at one input. -/
def fnExactLeaveTagWrong : ChangeSpec := { name := "fnExactLeaveTag", fn := fun _ => fun
  | [d1, d2] => { results := [.lit (.bool false)], args := [d1, d2] }
  | _ => none }
def FnExactLeaveTagWrongFalsely : Prop := fnExactLeaveTagRow.holds Try.pinned (OpenSpec.ofChange fnExactLeaveTagWrong)

/-- 'laws.FnExactTakeTag': WHATEVER THE INPUT: true; the input reads as it did. -/
def fnExactTakeTagSpec : ChangeSpec := { name := "fnExactTakeTag", fn := fun _ => fun
  | [d1, d2] => { results := [.lit (.bool true)], args := [d1, d2] }
  | _ => none }
def fnExactTakeTagRow : OpenClaim := { program := "ytkiohppknlmfaaa", sum := "b8cf8e9e7abcca053b9b326529ea6b4966f6167c8afa6f52d7495ac10ee1b312", func := "loop.example/invertedpages/laws.FnExactTakeTag", spec := "fnExactTakeTag", unfollowed := true, recurses := true, apart := false }
def FnExactTakeTagSaid : Prop := fnExactTakeTagRow.holds Try.pinned (OpenSpec.ofChange fnExactTakeTagSpec)

/-- ITS FALSE NEIGHBOUR: 'it returns false'. Refute it at one input. -/
def fnExactTakeTagWrong : ChangeSpec := { name := "fnExactTakeTag", fn := fun _ => fun
  | [d1, d2] => { results := [.lit (.bool false)], args := [d1, d2] }
  | _ => none }
def FnExactTakeTagWrongFalsely : Prop := fnExactTakeTagRow.holds Try.pinned (OpenSpec.ofChange fnExactTakeTagWrong)

/-- 'laws.FnLeaveAll': WHATEVER THE INPUT: true; the input reads as it did. -/
def fnLeaveAllSpec : ChangeSpec := { name := "fnLeaveAll", fn := fun _ => fun
  | [d] => { results := [.lit (.bool true)], args := [d] }
  | _ => none }
def fnLeaveAllRow : OpenClaim := { program := "ytkiohppknlmfaaa", sum := "b8cf8e9e7abcca053b9b326529ea6b4966f6167c8afa6f52d7495ac10ee1b312", func := "loop.example/invertedpages/laws.FnLeaveAll", spec := "fnLeaveAll", unfollowed := true, recurses := true, apart := false }
def FnLeaveAllSaid : Prop := fnLeaveAllRow.holds Try.pinned (OpenSpec.ofChange fnLeaveAllSpec)

/-- ITS FALSE NEIGHBOUR: 'it returns false'. Refute it at one input. -/
def fnLeaveAllWrong : ChangeSpec := { name := "fnLeaveAll", fn := fun _ => fun
  | [d] => { results := [.lit (.bool false)], args := [d] }
  | _ => none }
def FnLeaveAllWrongFalsely : Prop := fnLeaveAllRow.holds Try.pinned (OpenSpec.ofChange fnLeaveAllWrong)

/-- 'laws.FnTagRange': WHATEVER THE INPUT: true; the input reads as it did. -/
def fnTagRangeSpec : ChangeSpec := { name := "fnTagRange", fn := fun _ => fun
  | [d] => { results := [.lit (.bool true)], args := [d] }
  | _ => none }
def fnTagRangeRow : OpenClaim := { program := "ytkiohppknlmfaaa", sum := "b8cf8e9e7abcca053b9b326529ea6b4966f6167c8afa6f52d7495ac10ee1b312", func := "loop.example/invertedpages/laws.FnTagRange", spec := "fnTagRange", unfollowed := true, recurses := true, apart := false }
def FnTagRangeSaid : Prop := fnTagRangeRow.holds Try.pinned (OpenSpec.ofChange fnTagRangeSpec)

/-- ITS FALSE NEIGHBOUR: 'it returns false'. Refute it at one input. -/
def fnTagRangeWrong : ChangeSpec := { name := "fnTagRange", fn := fun _ => fun
  | [d] => { results := [.lit (.bool false)], args := [d] }
  | _ => none }
def FnTagRangeWrongFalsely : Prop := fnTagRangeRow.holds Try.pinned (OpenSpec.ofChange fnTagRangeWrong)

/-- 'laws.FnTakeRound': WHATEVER THE INPUT: true; the input reads as it did. -/
def fnTakeRoundSpec : ChangeSpec := { name := "fnTakeRound", fn := fun _ => fun
  | [d] => { results := [.lit (.bool true)], args := [d] }
  | _ => none }
def fnTakeRoundRow : OpenClaim := { program := "ytkiohppknlmfaaa", sum := "b8cf8e9e7abcca053b9b326529ea6b4966f6167c8afa6f52d7495ac10ee1b312", func := "loop.example/invertedpages/laws.FnTakeRound", spec := "fnTakeRound", unfollowed := true, recurses := true, apart := false }
def FnTakeRoundSaid : Prop := fnTakeRoundRow.holds Try.pinned (OpenSpec.ofChange fnTakeRoundSpec)

/-- ITS FALSE NEIGHBOUR: 'it returns false'. Refute it at one input. -/
def fnTakeRoundWrong : ChangeSpec := { name := "fnTakeRound", fn := fun _ => fun
  | [d] => { results := [.lit (.bool false)], args := [d] }
  | _ => none }
def FnTakeRoundWrongFalsely : Prop := fnTakeRoundRow.holds Try.pinned (OpenSpec.ofChange fnTakeRoundWrong)

/-- 'laws.FnTakeTag': WHATEVER THE INPUT: true; the input reads as it did. -/
def fnTakeTagSpec : ChangeSpec := { name := "fnTakeTag", fn := fun _ => fun
  | [d] => { results := [.lit (.bool true)], args := [d] }
  | _ => none }
def fnTakeTagRow : OpenClaim := { program := "ytkiohppknlmfaaa", sum := "b8cf8e9e7abcca053b9b326529ea6b4966f6167c8afa6f52d7495ac10ee1b312", func := "loop.example/invertedpages/laws.FnTakeTag", spec := "fnTakeTag", unfollowed := true, recurses := true, apart := false }
def FnTakeTagSaid : Prop := fnTakeTagRow.holds Try.pinned (OpenSpec.ofChange fnTakeTagSpec)

/-- ITS FALSE NEIGHBOUR: 'it returns false'. Refute it at one input. -/
def fnTakeTagWrong : ChangeSpec := { name := "fnTakeTag", fn := fun _ => fun
  | [d] => { results := [.lit (.bool false)], args := [d] }
  | _ => none }
def FnTakeTagWrongFalsely : Prop := fnTakeTagRow.holds Try.pinned (OpenSpec.ofChange fnTakeTagWrong)

/-- 'laws.FnTakeSame': WHATEVER THE INPUT: true; the input reads as it did. -/
def fnTakeSameSpec : ChangeSpec := { name := "fnTakeSame", fn := fun _ => fun
  | [d] => { results := [.lit (.bool true)], args := [d] }
  | _ => none }
def fnTakeSameRow : OpenClaim := { program := "ytkiohppknlmfaaa", sum := "b8cf8e9e7abcca053b9b326529ea6b4966f6167c8afa6f52d7495ac10ee1b312", func := "loop.example/invertedpages/laws.FnTakeSame", spec := "fnTakeSame", unfollowed := true, recurses := true, apart := false }
def FnTakeSameSaid : Prop := fnTakeSameRow.holds Try.pinned (OpenSpec.ofChange fnTakeSameSpec)

/-- ITS FALSE NEIGHBOUR: 'it returns false'. Refute it at one input. -/
def fnTakeSameWrong : ChangeSpec := { name := "fnTakeSame", fn := fun _ => fun
  | [d] => { results := [.lit (.bool false)], args := [d] }
  | _ => none }
def FnTakeSameWrongFalsely : Prop := fnTakeSameRow.holds Try.pinned (OpenSpec.ofChange fnTakeSameWrong)

/-- 'laws.FnTakeTags': WHATEVER THE INPUT: true; the input reads as it did. -/
def fnTakeTagsSpec : ChangeSpec := { name := "fnTakeTags", fn := fun _ => fun
  | [d] => { results := [.lit (.bool true)], args := [d] }
  | _ => none }
def fnTakeTagsRow : OpenClaim := { program := "ytkiohppknlmfaaa", sum := "b8cf8e9e7abcca053b9b326529ea6b4966f6167c8afa6f52d7495ac10ee1b312", func := "loop.example/invertedpages/laws.FnTakeTags", spec := "fnTakeTags", unfollowed := true, recurses := true, apart := false }
def FnTakeTagsSaid : Prop := fnTakeTagsRow.holds Try.pinned (OpenSpec.ofChange fnTakeTagsSpec)

/-- ITS FALSE NEIGHBOUR: 'it returns false'. Refute it at one input. -/
def fnTakeTagsWrong : ChangeSpec := { name := "fnTakeTags", fn := fun _ => fun
  | [d] => { results := [.lit (.bool false)], args := [d] }
  | _ => none }
def FnTakeTagsWrongFalsely : Prop := fnTakeTagsRow.holds Try.pinned (OpenSpec.ofChange fnTakeTagsWrong)

/-- 'laws.FnTakeLast': WHATEVER THE INPUT: true; the input reads as it did. -/
def fnTakeLastSpec : ChangeSpec := { name := "fnTakeLast", fn := fun _ => fun
  | [d] => { results := [.lit (.bool true)], args := [d] }
  | _ => none }
def fnTakeLastRow : OpenClaim := { program := "ytkiohppknlmfaaa", sum := "b8cf8e9e7abcca053b9b326529ea6b4966f6167c8afa6f52d7495ac10ee1b312", func := "loop.example/invertedpages/laws.FnTakeLast", spec := "fnTakeLast", unfollowed := true, recurses := true, apart := false }
def FnTakeLastSaid : Prop := fnTakeLastRow.holds Try.pinned (OpenSpec.ofChange fnTakeLastSpec)

/-- ITS FALSE NEIGHBOUR: 'it returns false'. Refute it at one input. -/
def fnTakeLastWrong : ChangeSpec := { name := "fnTakeLast", fn := fun _ => fun
  | [d] => { results := [.lit (.bool false)], args := [d] }
  | _ => none }
def FnTakeLastWrongFalsely : Prop := fnTakeLastRow.holds Try.pinned (OpenSpec.ofChange fnTakeLastWrong)

/-- 'laws.FnLeaveTag': WHATEVER THE INPUT: true; the input reads as it did. -/
def fnLeaveTagSpec : ChangeSpec := { name := "fnLeaveTag", fn := fun _ => fun
  | [d] => { results := [.lit (.bool true)], args := [d] }
  | _ => none }
def fnLeaveTagRow : OpenClaim := { program := "ytkiohppknlmfaaa", sum := "b8cf8e9e7abcca053b9b326529ea6b4966f6167c8afa6f52d7495ac10ee1b312", func := "loop.example/invertedpages/laws.FnLeaveTag", spec := "fnLeaveTag", unfollowed := true, recurses := true, apart := false }
def FnLeaveTagSaid : Prop := fnLeaveTagRow.holds Try.pinned (OpenSpec.ofChange fnLeaveTagSpec)

/-- ITS FALSE NEIGHBOUR: 'it returns false'. Refute it at one input. -/
def fnLeaveTagWrong : ChangeSpec := { name := "fnLeaveTag", fn := fun _ => fun
  | [d] => { results := [.lit (.bool false)], args := [d] }
  | _ => none }
def FnLeaveTagWrongFalsely : Prop := fnLeaveTagRow.holds Try.pinned (OpenSpec.ofChange fnLeaveTagWrong)

/-- 'laws.FnExactTakeTags': WHATEVER THE INPUT: true; the input reads as it did. -/
def fnExactTakeTagsSpec : ChangeSpec := { name := "fnExactTakeTags", fn := fun _ => fun
  | [d1, d2] => { results := [.lit (.bool true)], args := [d1, d2] }
  | _ => none }
def fnExactTakeTagsRow : OpenClaim := { program := "ytkiohppknlmfaaa", sum := "b8cf8e9e7abcca053b9b326529ea6b4966f6167c8afa6f52d7495ac10ee1b312", func := "loop.example/invertedpages/laws.FnExactTakeTags", spec := "fnExactTakeTags", unfollowed := true, recurses := true, apart := false }
def FnExactTakeTagsSaid : Prop := fnExactTakeTagsRow.holds Try.pinned (OpenSpec.ofChange fnExactTakeTagsSpec)

/-- ITS FALSE NEIGHBOUR: 'it returns false'. Refute it at one input. -/
def fnExactTakeTagsWrong : ChangeSpec := { name := "fnExactTakeTags", fn := fun _ => fun
  | [d1, d2] => { results := [.lit (.bool false)], args := [d1, d2] }
  | _ => none }
def FnExactTakeTagsWrongFalsely : Prop := fnExactTakeTagsRow.holds Try.pinned (OpenSpec.ofChange fnExactTakeTagsWrong)

/- THE SECOND FORM. 'bulk': how many values and letters a reading holds, each counted each time it is reached (what is shared counts as often as it is met; a slice's spare places count too). A statement '..UptoSaid' is the law's where the arguments, and the package variables that the reading takes, are together of bulk at most 1048576: NARROWER than '..Said'. Prove '..Said' where nothing that the law and all that it calls make is longer than what came in: it says more and counts as full. Else prove '..UptoSaid'. A law counts once. -/
mutual
def uptoBulk {H : Type} : DataW H → Nat
  | .lit (.string bytes) => bytes.length + 1
  | .lit _ => 1
  | .nil => 1
  | .ptr d => uptoBulk d + 1
  | .slice elems spare => uptoBulkAll elems + uptoBulkAll spare + 1
  | .agg parts => uptoBulkAll parts + 1
  | .iface _ d => uptoBulk d + 1
  | .map entries => uptoBulkEntries entries + 1
  | .held _ => 1
def uptoBulkAll {H : Type} : List (DataW H) → Nat
  | [] => 0
  | d :: r => uptoBulk d + uptoBulkAll r
def uptoBulkEntries {H : Type} : List (Lit × DataW H) → Nat
  | [] => 0
  | x :: r => uptoBulkEntry x + uptoBulkEntries r
def uptoBulkEntry {H : Type} : Lit × DataW H → Nat
  | (.string bytes, d) => bytes.length + uptoBulk d + 1
  | (_, d) => uptoBulk d + 1
 end
def uptoSmall : (H : Type) → List (DataW H) → Bool := fun _ ds => decide (uptoBulkAll ds ≤ 1048576)
def OpenSpec.upto (s : _root_.Go.ChangeSpec) : _root_.Go.OpenSpec := { _root_.Go.OpenSpec.ofChange s with cond := some uptoSmall }

/-- 'laws.FnExactSpaceOf', WHERE WHAT IT READS IS OF BULK AT MOST 1048576: true; the input reads as it did. -/
def fnExactSpaceOfUptoRow : OpenClaim := { program := "ytkiohppknlmfaaa", sum := "b8cf8e9e7abcca053b9b326529ea6b4966f6167c8afa6f52d7495ac10ee1b312", func := "loop.example/invertedpages/laws.FnExactSpaceOf", spec := "fnExactSpaceOf", apart := false, narrowed := true }
def FnExactSpaceOfUptoSaid : Prop := fnExactSpaceOfUptoRow.holds Try.pinned (OpenSpec.upto fnExactSpaceOfSpec)

/-- 'laws.FnNewTags', WHERE WHAT IT READS IS OF BULK AT MOST 1048576: true; the input reads as it did. -/
def fnNewTagsUptoRow : OpenClaim := { program := "ytkiohppknlmfaaa", sum := "b8cf8e9e7abcca053b9b326529ea6b4966f6167c8afa6f52d7495ac10ee1b312", func := "loop.example/invertedpages/laws.FnNewTags", spec := "fnNewTags", unfollowed := true, recurses := true, apart := false, narrowed := true }
def FnNewTagsUptoSaid : Prop := fnNewTagsUptoRow.holds Try.pinned (OpenSpec.upto fnNewTagsSpec)

/-- 'laws.FnTagOne', WHERE WHAT IT READS IS OF BULK AT MOST 1048576: true; the input reads as it did. -/
def fnTagOneUptoRow : OpenClaim := { program := "ytkiohppknlmfaaa", sum := "b8cf8e9e7abcca053b9b326529ea6b4966f6167c8afa6f52d7495ac10ee1b312", func := "loop.example/invertedpages/laws.FnTagOne", spec := "fnTagOne", unfollowed := true, recurses := true, apart := false, narrowed := true }
def FnTagOneUptoSaid : Prop := fnTagOneUptoRow.holds Try.pinned (OpenSpec.upto fnTagOneSpec)

/-- 'laws.FnExactTagOf', WHERE WHAT IT READS IS OF BULK AT MOST 1048576: true; the input reads as it did. -/
def fnExactTagOfUptoRow : OpenClaim := { program := "ytkiohppknlmfaaa", sum := "b8cf8e9e7abcca053b9b326529ea6b4966f6167c8afa6f52d7495ac10ee1b312", func := "loop.example/invertedpages/laws.FnExactTagOf", spec := "fnExactTagOf", unfollowed := true, recurses := true, apart := false, narrowed := true }
def FnExactTagOfUptoSaid : Prop := fnExactTagOfUptoRow.holds Try.pinned (OpenSpec.upto fnExactTagOfSpec)

/-- 'laws.FnTagsFew', WHERE WHAT IT READS IS OF BULK AT MOST 1048576: true; the input reads as it did. -/
def fnTagsFewUptoRow : OpenClaim := { program := "ytkiohppknlmfaaa", sum := "b8cf8e9e7abcca053b9b326529ea6b4966f6167c8afa6f52d7495ac10ee1b312", func := "loop.example/invertedpages/laws.FnTagsFew", spec := "fnTagsFew", unfollowed := true, recurses := true, apart := false, narrowed := true }
def FnTagsFewUptoSaid : Prop := fnTagsFewUptoRow.holds Try.pinned (OpenSpec.upto fnTagsFewSpec)

/-- 'laws.FnOwnOrder', WHERE WHAT IT READS IS OF BULK AT MOST 1048576: true; the input reads as it did. -/
def fnOwnOrderUptoRow : OpenClaim := { program := "ytkiohppknlmfaaa", sum := "b8cf8e9e7abcca053b9b326529ea6b4966f6167c8afa6f52d7495ac10ee1b312", func := "loop.example/invertedpages/laws.FnOwnOrder", spec := "fnOwnOrder", apart := false, narrowed := true }
def FnOwnOrderUptoSaid : Prop := fnOwnOrderUptoRow.holds Try.pinned (OpenSpec.upto fnOwnOrderSpec)

/-- 'laws.FnTagsSame', WHERE WHAT IT READS IS OF BULK AT MOST 1048576: true; the input reads as it did. -/
def fnTagsSameUptoRow : OpenClaim := { program := "ytkiohppknlmfaaa", sum := "b8cf8e9e7abcca053b9b326529ea6b4966f6167c8afa6f52d7495ac10ee1b312", func := "loop.example/invertedpages/laws.FnTagsSame", spec := "fnTagsSame", apart := false, narrowed := true }
def FnTagsSameUptoSaid : Prop := fnTagsSameUptoRow.holds Try.pinned (OpenSpec.upto fnTagsSameSpec)

/-- 'laws.FnSpaceOf', WHERE WHAT IT READS IS OF BULK AT MOST 1048576: true; the input reads as it did. -/
def fnSpaceOfUptoRow : OpenClaim := { program := "ytkiohppknlmfaaa", sum := "b8cf8e9e7abcca053b9b326529ea6b4966f6167c8afa6f52d7495ac10ee1b312", func := "loop.example/invertedpages/laws.FnSpaceOf", spec := "fnSpaceOf", unfollowed := true, recurses := true, apart := false, narrowed := true }
def FnSpaceOfUptoSaid : Prop := fnSpaceOfUptoRow.holds Try.pinned (OpenSpec.upto fnSpaceOfSpec)

/-- 'laws.FnExactLeaveTag', WHERE WHAT IT READS IS OF BULK AT MOST 1048576: true; the input reads as it did. -/
def fnExactLeaveTagUptoRow : OpenClaim := { program := "ytkiohppknlmfaaa", sum := "b8cf8e9e7abcca053b9b326529ea6b4966f6167c8afa6f52d7495ac10ee1b312", func := "loop.example/invertedpages/laws.FnExactLeaveTag", spec := "fnExactLeaveTag", unfollowed := true, recurses := true, apart := false, narrowed := true }
def FnExactLeaveTagUptoSaid : Prop := fnExactLeaveTagUptoRow.holds Try.pinned (OpenSpec.upto fnExactLeaveTagSpec)

/-- 'laws.FnExactTakeTag', WHERE WHAT IT READS IS OF BULK AT MOST 1048576: true; the input reads as it did. -/
def fnExactTakeTagUptoRow : OpenClaim := { program := "ytkiohppknlmfaaa", sum := "b8cf8e9e7abcca053b9b326529ea6b4966f6167c8afa6f52d7495ac10ee1b312", func := "loop.example/invertedpages/laws.FnExactTakeTag", spec := "fnExactTakeTag", unfollowed := true, recurses := true, apart := false, narrowed := true }
def FnExactTakeTagUptoSaid : Prop := fnExactTakeTagUptoRow.holds Try.pinned (OpenSpec.upto fnExactTakeTagSpec)

/-- 'laws.FnLeaveAll', WHERE WHAT IT READS IS OF BULK AT MOST 1048576: true; the input reads as it did. -/
def fnLeaveAllUptoRow : OpenClaim := { program := "ytkiohppknlmfaaa", sum := "b8cf8e9e7abcca053b9b326529ea6b4966f6167c8afa6f52d7495ac10ee1b312", func := "loop.example/invertedpages/laws.FnLeaveAll", spec := "fnLeaveAll", unfollowed := true, recurses := true, apart := false, narrowed := true }
def FnLeaveAllUptoSaid : Prop := fnLeaveAllUptoRow.holds Try.pinned (OpenSpec.upto fnLeaveAllSpec)

/-- 'laws.FnTagRange', WHERE WHAT IT READS IS OF BULK AT MOST 1048576: true; the input reads as it did. -/
def fnTagRangeUptoRow : OpenClaim := { program := "ytkiohppknlmfaaa", sum := "b8cf8e9e7abcca053b9b326529ea6b4966f6167c8afa6f52d7495ac10ee1b312", func := "loop.example/invertedpages/laws.FnTagRange", spec := "fnTagRange", unfollowed := true, recurses := true, apart := false, narrowed := true }
def FnTagRangeUptoSaid : Prop := fnTagRangeUptoRow.holds Try.pinned (OpenSpec.upto fnTagRangeSpec)

/-- 'laws.FnTakeRound', WHERE WHAT IT READS IS OF BULK AT MOST 1048576: true; the input reads as it did. -/
def fnTakeRoundUptoRow : OpenClaim := { program := "ytkiohppknlmfaaa", sum := "b8cf8e9e7abcca053b9b326529ea6b4966f6167c8afa6f52d7495ac10ee1b312", func := "loop.example/invertedpages/laws.FnTakeRound", spec := "fnTakeRound", unfollowed := true, recurses := true, apart := false, narrowed := true }
def FnTakeRoundUptoSaid : Prop := fnTakeRoundUptoRow.holds Try.pinned (OpenSpec.upto fnTakeRoundSpec)

/-- 'laws.FnTakeTag', WHERE WHAT IT READS IS OF BULK AT MOST 1048576: true; the input reads as it did. -/
def fnTakeTagUptoRow : OpenClaim := { program := "ytkiohppknlmfaaa", sum := "b8cf8e9e7abcca053b9b326529ea6b4966f6167c8afa6f52d7495ac10ee1b312", func := "loop.example/invertedpages/laws.FnTakeTag", spec := "fnTakeTag", unfollowed := true, recurses := true, apart := false, narrowed := true }
def FnTakeTagUptoSaid : Prop := fnTakeTagUptoRow.holds Try.pinned (OpenSpec.upto fnTakeTagSpec)

/-- 'laws.FnTakeSame', WHERE WHAT IT READS IS OF BULK AT MOST 1048576: true; the input reads as it did. -/
def fnTakeSameUptoRow : OpenClaim := { program := "ytkiohppknlmfaaa", sum := "b8cf8e9e7abcca053b9b326529ea6b4966f6167c8afa6f52d7495ac10ee1b312", func := "loop.example/invertedpages/laws.FnTakeSame", spec := "fnTakeSame", unfollowed := true, recurses := true, apart := false, narrowed := true }
def FnTakeSameUptoSaid : Prop := fnTakeSameUptoRow.holds Try.pinned (OpenSpec.upto fnTakeSameSpec)

/-- 'laws.FnTakeTags', WHERE WHAT IT READS IS OF BULK AT MOST 1048576: true; the input reads as it did. -/
def fnTakeTagsUptoRow : OpenClaim := { program := "ytkiohppknlmfaaa", sum := "b8cf8e9e7abcca053b9b326529ea6b4966f6167c8afa6f52d7495ac10ee1b312", func := "loop.example/invertedpages/laws.FnTakeTags", spec := "fnTakeTags", unfollowed := true, recurses := true, apart := false, narrowed := true }
def FnTakeTagsUptoSaid : Prop := fnTakeTagsUptoRow.holds Try.pinned (OpenSpec.upto fnTakeTagsSpec)

/-- 'laws.FnTakeLast', WHERE WHAT IT READS IS OF BULK AT MOST 1048576: true; the input reads as it did. -/
def fnTakeLastUptoRow : OpenClaim := { program := "ytkiohppknlmfaaa", sum := "b8cf8e9e7abcca053b9b326529ea6b4966f6167c8afa6f52d7495ac10ee1b312", func := "loop.example/invertedpages/laws.FnTakeLast", spec := "fnTakeLast", unfollowed := true, recurses := true, apart := false, narrowed := true }
def FnTakeLastUptoSaid : Prop := fnTakeLastUptoRow.holds Try.pinned (OpenSpec.upto fnTakeLastSpec)

/-- 'laws.FnLeaveTag', WHERE WHAT IT READS IS OF BULK AT MOST 1048576: true; the input reads as it did. -/
def fnLeaveTagUptoRow : OpenClaim := { program := "ytkiohppknlmfaaa", sum := "b8cf8e9e7abcca053b9b326529ea6b4966f6167c8afa6f52d7495ac10ee1b312", func := "loop.example/invertedpages/laws.FnLeaveTag", spec := "fnLeaveTag", unfollowed := true, recurses := true, apart := false, narrowed := true }
def FnLeaveTagUptoSaid : Prop := fnLeaveTagUptoRow.holds Try.pinned (OpenSpec.upto fnLeaveTagSpec)

/-- 'laws.FnExactTakeTags', WHERE WHAT IT READS IS OF BULK AT MOST 1048576: true; the input reads as it did. -/
def fnExactTakeTagsUptoRow : OpenClaim := { program := "ytkiohppknlmfaaa", sum := "b8cf8e9e7abcca053b9b326529ea6b4966f6167c8afa6f52d7495ac10ee1b312", func := "loop.example/invertedpages/laws.FnExactTakeTags", spec := "fnExactTakeTags", unfollowed := true, recurses := true, apart := false, narrowed := true }
def FnExactTakeTagsUptoSaid : Prop := fnExactTakeTagsUptoRow.holds Try.pinned (OpenSpec.upto fnExactTakeTagsSpec)

end Rows
end Go.Proofs.Ytkiohppknlmfaaa
