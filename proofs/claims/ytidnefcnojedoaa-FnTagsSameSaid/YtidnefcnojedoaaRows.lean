/-
  No cell of these rows narrows 'for every input' (looked for: loops, veiled, ifaces, maps, wideKeys, modest, calm, conditions, laid).
  DERIVED. THE GIVEN ROWS OF THIS SEAT. 4 by the template 'for every input the law returns true; each argument reads behind the call as it read before'; 0 by the template 'total and deterministic' (their statements: YtidnefcnojedoaaTotals.lean).
  GIVEN WITH THE SEED: the statements are not yours to turn. If you find one false, say at which input.
  Laid BY PROGRAM, IN A SANDBOX (cutbox-rows.mjs): the forced cells as the released guide's own fill.sh prints them over the translation aa7fbd280fcbfc17… (all of the seat's roots in one cut). By AI agents, Wed Nov 11 2026. No macro, syntax, notation, axiom, sorry.
-/
import Derived.Test.YtidnefcnojedoaaChecked
import GoSem.Claim
import GoSem.ClaimJoined
import GoSem.ClaimMapViews
import Derived.JoinedTies
import Derived.KernelRfl
namespace Go.Proofs.Ytidnefcnojedoaa
/- THE CELL 'sum', in the pinned program and in every row, IS THE sha256 OF THE DUMP (.gsa) THAT YtidnefcnojedoaaProg.lean LOADS. Nothing in Lean hashes anything: it is a label: what it is worth is what the hold of that sum in a sandbox is worth. -/
noncomputable def Try.pinned : Pinned := { name := "ytidnefcnojedoaa", sum := "aa7fbd280fcbfc17e86f24e3d3e4326443a20239cda00754e44c867570cf60af", checked := Try.checked }
namespace Rows
def none {H : Type} : Left H := { results := [], args := [] }

/-- 'laws.FnTagsSame': WHATEVER THE INPUT: true; the input reads as it did. -/
def fnTagsSameSpec : ChangeSpec := { name := "fnTagsSame", fn := fun _ => fun
  | [d] => { results := [.lit (.bool true)], args := [d] }
  | _ => none }
def fnTagsSameRow : OpenClaim := { program := "ytidnefcnojedoaa", sum := "aa7fbd280fcbfc17e86f24e3d3e4326443a20239cda00754e44c867570cf60af", func := "loop.example/invertedpages/laws.FnTagsSame", spec := "fnTagsSame", apart := false }
def FnTagsSameSaid : Prop := fnTagsSameRow.holds Try.pinned (OpenSpec.ofChange fnTagsSameSpec)

/-- ITS FALSE NEIGHBOUR: 'it returns false'. Refute it at one input. -/
def fnTagsSameWrong : ChangeSpec := { name := "fnTagsSame", fn := fun _ => fun
  | [d] => { results := [.lit (.bool false)], args := [d] }
  | _ => none }
def FnTagsSameWrongFalsely : Prop := fnTagsSameRow.holds Try.pinned (OpenSpec.ofChange fnTagsSameWrong)

/-- 'laws.FnCacheSame': WHATEVER THE INPUT: true; the input reads as it did. -/
def fnCacheSameSpec : ChangeSpec := { name := "fnCacheSame", fn := fun _ => fun
  | [d] => { results := [.lit (.bool true)], args := [d] }
  | _ => none }
def fnCacheSameRow : OpenClaim := { program := "ytidnefcnojedoaa", sum := "aa7fbd280fcbfc17e86f24e3d3e4326443a20239cda00754e44c867570cf60af", func := "loop.example/invertedpages/laws.FnCacheSame", spec := "fnCacheSame", apart := false }
def FnCacheSameSaid : Prop := fnCacheSameRow.holds Try.pinned (OpenSpec.ofChange fnCacheSameSpec)

/-- ITS FALSE NEIGHBOUR: 'it returns false'. Refute it at one input. -/
def fnCacheSameWrong : ChangeSpec := { name := "fnCacheSame", fn := fun _ => fun
  | [d] => { results := [.lit (.bool false)], args := [d] }
  | _ => none }
def FnCacheSameWrongFalsely : Prop := fnCacheSameRow.holds Try.pinned (OpenSpec.ofChange fnCacheSameWrong)

/-- 'laws.FnFindLine': WHATEVER THE INPUT: true; the input reads as it did. -/
def fnFindLineSpec : ChangeSpec := { name := "fnFindLine", fn := fun _ => fun
  | [d] => { results := [.lit (.bool true)], args := [d] }
  | _ => none }
def fnFindLineRow : OpenClaim := { program := "ytidnefcnojedoaa", sum := "aa7fbd280fcbfc17e86f24e3d3e4326443a20239cda00754e44c867570cf60af", func := "loop.example/invertedpages/laws.FnFindLine", spec := "fnFindLine", unfollowed := true, recurses := true, apart := false }
def FnFindLineSaid : Prop := fnFindLineRow.holds Try.pinned (OpenSpec.ofChange fnFindLineSpec)

/-- ITS FALSE NEIGHBOUR: 'it returns false'. Refute it at one input. -/
def fnFindLineWrong : ChangeSpec := { name := "fnFindLine", fn := fun _ => fun
  | [d] => { results := [.lit (.bool false)], args := [d] }
  | _ => none }
def FnFindLineWrongFalsely : Prop := fnFindLineRow.holds Try.pinned (OpenSpec.ofChange fnFindLineWrong)

/-- 'laws.FnSharedFits': WHATEVER THE INPUT: true; the input reads as it did. -/
def fnSharedFitsSpec : ChangeSpec := { name := "fnSharedFits", fn := fun _ => fun
  | [d] => { results := [.lit (.bool true)], args := [d] }
  | _ => none }
def fnSharedFitsRow : OpenClaim := { program := "ytidnefcnojedoaa", sum := "aa7fbd280fcbfc17e86f24e3d3e4326443a20239cda00754e44c867570cf60af", func := "loop.example/invertedpages/laws.FnSharedFits", spec := "fnSharedFits", unfollowed := true, recurses := true, apart := false }
def FnSharedFitsSaid : Prop := fnSharedFitsRow.holds Try.pinned (OpenSpec.ofChange fnSharedFitsSpec)

/-- ITS FALSE NEIGHBOUR: 'it returns false'. Refute it at one input. -/
def fnSharedFitsWrong : ChangeSpec := { name := "fnSharedFits", fn := fun _ => fun
  | [d] => { results := [.lit (.bool false)], args := [d] }
  | _ => none }
def FnSharedFitsWrongFalsely : Prop := fnSharedFitsRow.holds Try.pinned (OpenSpec.ofChange fnSharedFitsWrong)

/- THE SECOND FORM. 'bulk': how many values and letters a reading holds, each counted each time it is reached (what is shared counts as often as it is met; a slice's spare places count too). A statement '..UptoSaid' is the law's where the arguments, and the package variables that the reading takes, are together of bulk at most 1048576: NARROWER than '..Said'. Prove '..Said' where nothing that the law and all that it calls make is longer than what came in: it says more and counts as full. Else prove '..UptoSaid'. A law counts once. -/
mutual
def uptoBulk {H : Type} : DataW H → Nat
  | .lit (.string bytes) => bytes.length + 1
  | .lit _ => 1
  | .nil => 1
  | .ptr d => uptoBulk d + 1
  | .slice elems spare => uptoBulkAll elems + uptoBulkAll spare + 1
  | .agg parts => uptoBulkAll parts + 1
  | .iface _ d => uptoBulk d + 1
  | .map entries => uptoBulkEntries entries + 1
  | .held _ => 1
def uptoBulkAll {H : Type} : List (DataW H) → Nat
  | [] => 0
  | d :: r => uptoBulk d + uptoBulkAll r
def uptoBulkEntries {H : Type} : List (Lit × DataW H) → Nat
  | [] => 0
  | x :: r => uptoBulkEntry x + uptoBulkEntries r
def uptoBulkEntry {H : Type} : Lit × DataW H → Nat
  | (.string bytes, d) => bytes.length + uptoBulk d + 1
  | (_, d) => uptoBulk d + 1
 end
def uptoSmall : (H : Type) → List (DataW H) → Bool := fun _ ds => decide (uptoBulkAll ds ≤ 1048576)
def OpenSpec.upto (s : _root_.Go.ChangeSpec) : _root_.Go.OpenSpec := { _root_.Go.OpenSpec.ofChange s with cond := some uptoSmall }

/-- 'laws.FnTagsSame', WHERE WHAT IT READS IS OF BULK AT MOST 1048576: true; the input reads as it did. -/
def fnTagsSameUptoRow : OpenClaim := { program := "ytidnefcnojedoaa", sum := "aa7fbd280fcbfc17e86f24e3d3e4326443a20239cda00754e44c867570cf60af", func := "loop.example/invertedpages/laws.FnTagsSame", spec := "fnTagsSame", apart := false, narrowed := true }
def FnTagsSameUptoSaid : Prop := fnTagsSameUptoRow.holds Try.pinned (OpenSpec.upto fnTagsSameSpec)

/-- 'laws.FnCacheSame', WHERE WHAT IT READS IS OF BULK AT MOST 1048576: true; the input reads as it did. -/
def fnCacheSameUptoRow : OpenClaim := { program := "ytidnefcnojedoaa", sum := "aa7fbd280fcbfc17e86f24e3d3e4326443a20239cda00754e44c867570cf60af", func := "loop.example/invertedpages/laws.FnCacheSame", spec := "fnCacheSame", apart := false, narrowed := true }
def FnCacheSameUptoSaid : Prop := fnCacheSameUptoRow.holds Try.pinned (OpenSpec.upto fnCacheSameSpec)

/-- 'laws.FnFindLine', WHERE WHAT IT READS IS OF BULK AT MOST 1048576: true; the input reads as it did. -/
def fnFindLineUptoRow : OpenClaim := { program := "ytidnefcnojedoaa", sum := "aa7fbd280fcbfc17e86f24e3d3e4326443a20239cda00754e44c867570cf60af", func := "loop.example/invertedpages/laws.FnFindLine", spec := "fnFindLine", unfollowed := true, recurses := true, apart := false, narrowed := true }
def FnFindLineUptoSaid : Prop := fnFindLineUptoRow.holds Try.pinned (OpenSpec.upto fnFindLineSpec)

/-- 'laws.FnSharedFits', WHERE WHAT IT READS IS OF BULK AT MOST 1048576: true; the input reads as it did. -/
def fnSharedFitsUptoRow : OpenClaim := { program := "ytidnefcnojedoaa", sum := "aa7fbd280fcbfc17e86f24e3d3e4326443a20239cda00754e44c867570cf60af", func := "loop.example/invertedpages/laws.FnSharedFits", spec := "fnSharedFits", unfollowed := true, recurses := true, apart := false, narrowed := true }
def FnSharedFitsUptoSaid : Prop := fnSharedFitsUptoRow.holds Try.pinned (OpenSpec.upto fnSharedFitsSpec)

end Rows
end Go.Proofs.Ytidnefcnojedoaa
