/- slices.Grow and slices.Concat over owners. -/
import Derived.Test.YtidnefcnojedoaaTh
import Derived.Lib.AppendZeros
namespace Go.Proofs.Ytidnefcnojedoaa
open Go.ChangeShapes Go.WideShapes Go.ChangeAt Go.RowKit
open Rec (sz cs)
set_option linter.unusedVariables false
set_option maxRecDepth 100000

theorem zeros_fr (w : World) (n cp B : Nat) (zc : Array Value) (hz : zc.size = 2) (hn : n ≤ cp) (hm : cp ≤ maxLen) (hB : B ≤ w.heap.size) :
    Fr 50 (w.alloc (.cells (Builtin.zeroCells zc n ++ Builtin.zeroCells zc (cp - n)) 50)).drew B (some ⟨w.heap.size, 0, none⟩) cp ([] : List OwnD) := by
  refine ⟨Nat.zero_le _, hm, .inr ⟨w.heap.size, (Builtin.zeroCells zc n ++ Builtin.zeroCells zc (cp - n)).toList, rfl, hB, ?_, ?_⟩⟩
  · exact Blk.drew (Blk.new_at w _ _ rfl)
  · simp only [Array.length_toList, Array.size_append, size_zeroCells, hz, List.length_nil]
    rw [← Nat.add_mul]
    refine Nat.mul_le_mul_right _ ?_
    omega

def catLen (n m k : Nat) : Nat := if k = 0 then 0 else if k = 1 then n else n + m
def catAt (xs ys : List OwnD) (k : Nat) : List OwnD := if k = 0 then [] else if k = 1 then xs else xs ++ ys
theorem catLen_le {n m k : Nat} (hn : n ≤ 1048576) (hm : m ≤ 1048576) : catLen n m k ≤ 2097152 := by
  unfold catLen
  repeat' split
  all_goals omega
theorem catAt_len {xs ys : List OwnD} {n m k : Nat} (h1 : n = xs.length) (h2 : m = ys.length) : (catAt xs ys k).length = catLen n m k := by
  subst h1 h2
  unfold catAt catLen
  split
  · rfl
  · split
    · rfl
    · simp

end Go.Proofs.Ytidnefcnojedoaa
