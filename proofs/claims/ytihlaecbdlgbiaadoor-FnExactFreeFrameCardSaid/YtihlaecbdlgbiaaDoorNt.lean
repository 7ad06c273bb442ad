/- NewTable of both sides. -/
import Derived.Test.YtihlaecbdlgbiaaDoorNr
import Derived.Test.YtihlaecbdlgbiaaDoorMt
namespace Go.Proofs.YtihlaecbdlgbiaaDoor
open Go.ChangeShapes Go.WideShapes Go.ChangeAt Go.RowKit
open Rec (sz cs)
set_option linter.unusedVariables false
set_option maxRecDepth 100000

def freeF : FrameD := ⟨false, ⟨0, 0⟩, 0, -1⟩
def noTable : TableD := ⟨[], []⟩
def newTable (f b : Int) : TableD × Bool := if (1 ≤ f ∧ f ≤ 16) ∧ (1 ≤ b ∧ b ≤ 16) then (⟨List.replicate b.toNat (-1), List.replicate f.toNat freeF⟩, true) else (noTable, false)
theorem newTable_few (f b : Int) : (newTable f b).1.buckets.length ≤ 16 ∧ (newTable f b).1.frames.length ≤ 16 := by
  unfold newTable
  split
  · simp; omega
  · simp [noTable]

/-- The program's variable of an unused frame reads as its text lays it. -/
structure FreeV (w : World) : Prop where
  lt : 0 < w.heap.size
  c0 : w.cell? ⟨0, 0, none⟩ = some (.bool false)
  c1 : w.cell? ⟨0, 1, none⟩ = some (.int .i64 0)
  c2 : w.cell? ⟨0, 2, none⟩ = some (.int .i64 0)
  c3 : w.cell? ⟨0, 3, none⟩ = some (.int .i64 0)
  c4 : w.cell? ⟨0, 4, none⟩ = some (.int .i64 (-1))
theorem FreeV.ex {w w' : World} (h : FreeV w) (k : Ex w w') : FreeV w' :=
  ⟨Nat.lt_of_lt_of_le h.lt k.size, (k.cell h.lt).trans h.c0, (k.cell h.lt).trans h.c1, (k.cell h.lt).trans h.c2, (k.cell h.lt).trans h.c3, (k.cell h.lt).trans h.c4⟩

theorem Rd.row_at {α : Type} [Rec α] (w : World) (E : TypeId) (xs : List α) {g : Nat} (hg : g = w.heap.size) : Rd (w.alloc (.cells (flat xs).toArray E)) (some ⟨g, 0, none⟩) xs := by
  subst hg; exact (Bk.new w E xs).rd

def bkB (n : Int) : Bool := decide (1 ≤ n ∧ n ≤ 16)
theorem bkB_iff {n : Int} : bkB n = true ↔ 1 ≤ n ∧ n ≤ 16 := by simp [bkB]
theorem bkB_not {n : Int} : bkB n = false ↔ ¬ (1 ≤ n ∧ n ≤ 16) := by simp [bkB]
set_option maxHeartbeats 400000 in
theorem bucketsValid_c (n : Int) (w : World) : Calls Tryd.prog 61 #[.int .i64 n] w fun r w' => r = .returned (.bool (bkB n)) ∧ w = w' := by
  by_cases h0 : 1 ≤ n
  · go_enter Tryd.func61, Tryd.ntmps61
    go_wp2
    go_ret
    exact ⟨ret_bool (by rw [Bool.eq_iff_iff, bkB_iff]; simp [h0]), rfl⟩
  · go_enter Tryd.func61, Tryd.ntmps61
    go_wp2
    go_ret
    exact ⟨ret_bool (by rw [Bool.eq_iff_iff, bkB_iff]; simp; omega), rfl⟩
set_option maxHeartbeats 400000 in
theorem l2Buckets_c (n : Int) (w : World) : Calls Tryd.prog 48 #[.int .i64 n] w fun r w' => r = .returned (.bool (bkB n)) ∧ w = w' := by
  by_cases h0 : 1 ≤ n
  · go_enter Tryd.func48, Tryd.ntmps48
    go_wp2
    go_ret
    exact ⟨ret_bool (by rw [Bool.eq_iff_iff, bkB_iff]; simp [h0]), rfl⟩
  · go_enter Tryd.func48, Tryd.ntmps48
    go_wp2
    go_ret
    exact ⟨ret_bool (by rw [Bool.eq_iff_iff, bkB_iff]; simp; omega), rfl⟩

/-- A new table: its two rows are the call's own, and lie apart. -/
def MadeTable (q : TableD × Bool) (w : World) (r : Ending) (w' : World) : Prop := ∃ A c B d mi, r = .returned (.tuple #[.agg #[.slice A q.1.buckets.length c, .slice B q.1.frames.length d], .bool q.2]) ∧ Fr 3 w' w.heap.size A c q.1.buckets ∧ Fr 72 w' mi B d q.1.frames ∧ (∀ x, rowOf A c = some x → x < mi) ∧ w.heap.size ≤ mi ∧ mi ≤ w'.heap.size ∧ Ex w w'

end Go.Proofs.YtihlaecbdlgbiaaDoor
