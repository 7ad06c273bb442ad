/- Contracts: NewTags, the program's and the reference's. -/
import Derived.Test.YtkoegcalfibinaaDoorTd
namespace Go.Proofs.YtkoegcalfibinaaDoor
open Go.ChangeShapes Go.WideShapes Go.ChangeAt Go.RowKit
open Rec (sz cs)
set_option linter.unusedVariables false
set_option maxRecDepth 100000

def noTags : TagsD := ⟨0, 0, 0, []⟩
def newTags (n : Int) : TagsD × Bool := if 1 ≤ n ∧ n ≤ 8 then (⟨n, 0, 0, []⟩, true) else (noTags, false)

set_option maxHeartbeats 400000 in
theorem newTagsI_c (n : Int) (w : World) : Calls Tryd.prog 41 #[.int .i64 n] w
    fun r w' => ∃ A c, r = .returned (.tuple #[.agg #[.int .i64 (newTags n).1.count, .int .i64 (newTags n).1.next, .int .i64 (newTags n).1.round, .slice A (newTags n).1.owns.length c], .bool (newTags n).2]) ∧ Fr 129 w' w.heap.size A c (newTags n).1.owns ∧ Ex w w' := by
  by_cases h1 : 1 ≤ n
  · by_cases h2 : n ≤ 8
    · have e : newTags n = (⟨n, 0, 0, []⟩, true) := if_pos ⟨h1, h2⟩
      rw [e]
      clear e
      go_enter Tryd.func41, Tryd.ntmps41
      go_wp2
      exact bodyPost_ret (v := .tuple #[.agg #[.int .i64 n, .int .i64 0, .int .i64 0, .slice none 0 0], .bool true]) (by simp [results, Tryd.results41, go_sem]) rfl
        ⟨none, 0, rfl, Fr.none_ _ _ _ _, (Ex.refl _).alloc _⟩
    · have e : newTags n = (noTags, false) := if_neg (fun h => h2 h.2)
      rw [e]
      clear e
      have h3 : 8 < n := by omega
      go_enter Tryd.func41, Tryd.ntmps41
      go_wp2
      exact bodyPost_ret (v := .tuple #[.agg #[.int .i64 0, .int .i64 0, .int .i64 0, .slice none 0 0], .bool false]) (by simp [results, Tryd.results41, go_sem]) rfl
        ⟨none, 0, rfl, Fr.none_ _ _ _ _, (Ex.refl _).alloc _⟩
  · have e : newTags n = (noTags, false) := if_neg (fun h => h1 h.1)
    rw [e]
    clear e
    have h3 : n < 1 := by omega
    go_enter Tryd.func41, Tryd.ntmps41
    go_wp2
    exact bodyPost_ret (v := .tuple #[.agg #[.int .i64 0, .int .i64 0, .int .i64 0, .slice none 0 0], .bool false]) (by simp [results, Tryd.results41, go_sem]) rfl
      ⟨none, 0, rfl, Fr.none_ _ _ _ _, (Ex.refl _).alloc _⟩

set_option maxHeartbeats 400000 in
theorem newTagsS_c (n : Int) (w : World) : Calls Tryd.prog 38 #[.int .i64 n] w
    fun r w' => ∃ A c, r = .returned (.tuple #[.agg #[.int .i64 (newTags n).1.count, .int .i64 (newTags n).1.next, .int .i64 (newTags n).1.round, .slice A (newTags n).1.owns.length c], .bool (newTags n).2]) ∧ Fr 129 w' w.heap.size A c (newTags n).1.owns ∧ Ex w w' := by
  by_cases h1 : 1 ≤ n
  · by_cases h2 : n ≤ 8
    · have e : newTags n = (⟨n, 0, 0, []⟩, true) := if_pos ⟨h1, h2⟩
      rw [e]
      clear e
      go_enter Tryd.func38, Tryd.ntmps38
      go_wp2
      exact bodyPost_ret (v := .tuple #[.agg #[.int .i64 n, .int .i64 0, .int .i64 0, .slice (some ⟨w.heap.size + 1, 0, none⟩) 0 0], .bool true]) (by simp [results, Tryd.results38, go_sem]) rfl
        ⟨_, 0, rfl, Fr.none_ _ _ _ _, ((Ex.refl _).alloc _).alloc _⟩
    · have e : newTags n = (noTags, false) := if_neg (fun h => h2 h.2)
      rw [e]
      clear e
      have h3 : 8 < n := by omega
      go_enter Tryd.func38, Tryd.ntmps38
      go_wp2
      exact bodyPost_ret (v := .tuple #[.agg #[.int .i64 0, .int .i64 0, .int .i64 0, .slice none 0 0], .bool false]) (by simp [results, Tryd.results38, go_sem]) rfl
        ⟨none, 0, rfl, Fr.none_ _ _ _ _, (Ex.refl _).alloc _⟩
  · have e : newTags n = (noTags, false) := if_neg (fun h => h1 h.1)
    rw [e]
    clear e
    have h3 : n < 1 := by omega
    go_enter Tryd.func38, Tryd.ntmps38
    go_wp2
    exact bodyPost_ret (v := .tuple #[.agg #[.int .i64 0, .int .i64 0, .int .i64 0, .slice none 0 0], .bool false]) (by simp [results, Tryd.results38, go_sem]) rfl
      ⟨none, 0, rfl, Fr.none_ _ _ _ _, (Ex.refl _).alloc _⟩
end Go.Proofs.YtkoegcalfibinaaDoor
