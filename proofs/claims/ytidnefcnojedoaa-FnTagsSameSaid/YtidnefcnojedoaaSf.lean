/- Drawn tags: the arguments of the laws. -/
import Derived.Test.YtidnefcnojedoaaSe
namespace Go.Proofs.Ytidnefcnojedoaa
open Go.ChangeShapes Go.WideShapes Go.ChangeAt Go.RowKit
open Rec (sz cs)
set_option linter.unusedVariables false
set_option maxRecDepth 100000

def SomeTag (w : World) (e : Ending) (w' : World) : Prop := ∃ (t : TagsD) (n : Int) (A : Option Addr) (c : Nat), e = .returned (.tuple #[.agg #[.int .i64 t.count, .int .i64 t.next, .int .i64 t.round, .slice A t.owns.length c], .int .i64 n]) ∧ t.owns.length ≤ 20 ∧ Fr 50 w' w.heap.size A c t.owns ∧ Ex w w'
def SomeTags (w : World) (e : Ending) (w' : World) : Prop := ∃ (t : TagsD) (A : Option Addr) (c : Nat), e = .returned (.agg #[.int .i64 t.count, .int .i64 t.next, .int .i64 t.round, .slice A t.owns.length c]) ∧ t.owns.length ≤ 20 ∧ Fr 50 w' w.heap.size A c t.owns ∧ Ex w w'
def SomeTake (w : World) (e : Ending) (w' : World) : Prop := ∃ (t : TagsD) (zs : List Int) (A Z : Option Addr) (c d : Nat), e = .returned (.tuple #[.agg #[.int .i64 t.count, .int .i64 t.next, .int .i64 t.round, .slice A t.owns.length c], .slice Z zs.length d]) ∧ t.owns.length ≤ 20 ∧ zs.length ≤ 20 ∧ Fr 50 w' w.heap.size A c t.owns ∧ Fr 3 w' w.heap.size Z d zs ∧ Ex w w'

end Go.Proofs.Ytidnefcnojedoaa
