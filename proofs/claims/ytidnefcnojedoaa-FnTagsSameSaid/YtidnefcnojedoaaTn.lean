/- TakeTags: what holds at the head of the loop. -/
import Derived.Test.YtidnefcnojedoaaTh
namespace Go.Proofs.Ytidnefcnojedoaa
open Go.ChangeShapes Go.WideShapes Go.ChangeAt Go.RowKit
open Rec (sz cs)
set_option linter.unusedVariables false

theorem takeAll_step {u : TagsD} {r : Int} {zs : List Int} {k : Nat} {z : Int} (h : zs[k]? = some z) : takeAll u r (zs.drop k) = if (takeTag u z).2.2.2 then takeAll (takeTag u z).1 (if (takeTag u z).2.2.1 then r + 1 else r) (zs.drop (k + 1)) else (noTags, 0, false) := by
  have hk := getElem?_lt h
  have e : zs.drop k = z :: zs.drop (k + 1) := by
    rw [List.drop_eq_getElem_cons hk]
    rw [List.getElem?_eq_getElem hk] at h
    injection h with h
    rw [h]
  rw [e]
  rfl
theorem takeAll_end {u : TagsD} {r : Int} {zs : List Int} {k : Nat} (h : zs.length ≤ k) : takeAll u r (zs.drop k) = (u, r, true) := by
  rw [List.drop_of_length_le h]; rfl
def TakeLoop (res : TagsD × Int × Bool) (zs : List Int) (gO : Nat) (w : World) (s i : Value) (wr : World) : Prop := ∃ (k : Nat) (r : Int) (u : TagsD) (A : Option Addr) (c : Nat), i = .int .i64 k ∧ s = .int .i64 r ∧ k ≤ zs.length ∧ 0 ≤ r ∧ r ≤ k ∧ tagsV u = true ∧ takeAll u r (zs.drop k) = res ∧ Ex w wr ∧ Blk wr gO 25 [.int .i64 u.count, .int .i64 u.next, .int .i64 u.round, .slice A u.owns.length c] ∧
  Blk wr (w.heap.size + 1) 25 [.int .i64 0, .int .i64 0, .int .i64 0, .slice none 0 0] ∧ Fr 50 wr (w.heap.size + 2) A c u.owns ∧ (∀ b, rowOf A c = some b → b ≠ gO)
end Go.Proofs.Ytidnefcnojedoaa
