/- NewMachine of both sides. -/
import Derived.Test.YtkoegcalfibinaaDoorNt
import Derived.Test.YtkoegcalfibinaaDoorMm
import Derived.Test.YtkoegcalfibinaaDoorTt
import Derived.Test.YtkoegcalfibinaaDoorTu
import Derived.Test.YtkoegcalfibinaaDoorTe
namespace Go.Proofs.YtkoegcalfibinaaDoor
open Go.ChangeShapes Go.WideShapes Go.ChangeAt Go.RowKit
open Rec (sz cs)
set_option linter.unusedVariables false
set_option maxRecDepth 100000

def noMach : MachD := ⟨noTable, noCache, noTags, 0⟩
def newMach (f b l t : Int) : MachD × Bool := if ((newTable f b).2 && ((newCache l).2 && (newTags t).2)) = true then (⟨(newTable f b).1, (newCache l).1, (takeTag (newTags t).1 0).1, 0⟩, true) else (noMach, false)
theorem newTags_few (n : Int) : (newTags n).1.owns.length ≤ 8 := by unfold newTags; split <;> simp [noTags]
theorem newCache_few8 (n : Int) : (newCache n).1.lines.length ≤ 8 := by unfold newCache; split <;> simp [noCache]; omega
theorem takeTag_few9 (t : TagsD) (s : Int) (h : t.owns.length ≤ 8) : (takeTag t s).1.owns.length ≤ 9 := by
  unfold takeTag
  split
  · split
    · exact Nat.le_succ_of_le h
    · split
      · split
        · simp [noTags]
        · simp
      · simp; omega
  · simp [noTags]
theorem newMach_few (f b l t : Int) : (newMach f b l t).1.table.buckets.length ≤ 16 ∧ (newMach f b l t).1.table.frames.length ≤ 16 ∧ (newMach f b l t).1.cache.lines.length ≤ 16 ∧ (newMach f b l t).1.tags.owns.length ≤ 16 := by
  unfold newMach
  split
  · have h1 := newTable_few f b
    have h2 := newCache_few8 l
    have h3 := takeTag_few9 (newTags t).1 0 (newTags_few t)
    exact ⟨h1.1, h1.2, by show (newCache l).1.lines.length ≤ 16; omega, by show (takeTag (newTags t).1 0).1.owns.length ≤ 16; omega⟩
  · simp [noMach, noTable, noCache, noTags]

/-- A new machine: its rows are the call's own, and lie one behind the other. -/
def MadeMach (q : MachD × Bool) (w : World) (r : Ending) (w' : World) : Prop := ∃ (a : MA) (m1 m2 m3 : Nat), r = .returned (.tuple #[.agg #[.slice a.b q.1.table.buckets.length a.bc, .slice a.f q.1.table.frames.length a.fc, .slice a.l q.1.cache.lines.length a.lc, .int .i64 q.1.cache.hand, .int .i64 q.1.tags.count, .int .i64 q.1.tags.next, .int .i64 q.1.tags.round, .slice a.o q.1.tags.owns.length a.oc, .int .i64 q.1.space], .bool q.2]) ∧ Fr 3 w' w.heap.size a.b a.bc q.1.table.buckets ∧ Fr 99 w' m1 a.f a.fc q.1.table.frames ∧ Fr 101 w' m2 a.l a.lc q.1.cache.lines ∧ Fr 129 w' m3 a.o a.oc q.1.tags.owns ∧
  ((∀ x, rowOf a.b a.bc = some x → x < m1) ∧ (∀ x, rowOf a.f a.fc = some x → x < m2) ∧ (∀ x, rowOf a.l a.lc = some x → x < m3)) ∧ (w.heap.size ≤ m1 ∧ m1 ≤ m2 ∧ m2 ≤ m3 ∧ m3 ≤ w'.heap.size) ∧ Ex w w'

set_option maxHeartbeats 8000000 in
theorem newMachS_c (f b l t : Int) (w : World) : Calls Tryd.prog 13 #[.int .i64 f, .int .i64 b, .int .i64 l, .int .i64 t] w
    fun r w' => ∃ a : MA, r = .returned (.tuple #[.agg #[.slice a.b (newMach f b l t).1.table.buckets.length a.bc, .slice a.f (newMach f b l t).1.table.frames.length a.fc, .slice a.l (newMach f b l t).1.cache.lines.length a.lc, .int .i64 (newMach f b l t).1.cache.hand, .int .i64 (newMach f b l t).1.tags.count, .int .i64 (newMach f b l t).1.tags.next, .int .i64 (newMach f b l t).1.tags.round, .slice a.o (newMach f b l t).1.tags.owns.length a.oc, .int .i64 (newMach f b l t).1.space], .bool (newMach f b l t).2]) ∧ FrM w' w.heap.size (newMach f b l t).1 a ∧ Ex w w' := by
  have C1 := Lib.hid (fun w' => newTableS_c f b w')
  have C2 := Lib.hid (fun w' => newCacheS_c l w')
  have C3 := Lib.hid (fun w' => newTagsS_c t w')
  have C4 := Lib.hid (takeTagS_c (newTags t).1 0)
  have hg8 := newTags_few t
  unfold newMach
  generalize newTable f b = q1 at C1 ⊢
  generalize newCache l = q2 at C2 ⊢
  generalize newTags t = q3 at C3 C4 hg8 ⊢
  obtain ⟨tb, p1⟩ := q1
  obtain ⟨ch, p2⟩ := q2
  obtain ⟨tg, p3⟩ := q3
  dsimp only at C1 C2 C3 C4 hg8 ⊢
  generalize hk : takeTag tg 0 = k at C4 ⊢
  obtain ⟨tk, k1, k2, k3⟩ := k
  dsimp only at C4 ⊢
  have hg : tg.owns.length ≤ 1048576 := by omega
  clear hk hg8
  cases hp : (p1 && (p2 && p3))
  · simp only [Bool.false_eq_true, if_false]
    have HP := Lib.hid hp
    clear hp
    go_enter Tryd.func13, Tryd.ntmps13
    go_wp2_with fail
    refine name_calls ?_; intro v1 hv1
    have X1 : Hid (Chg (0) (0) w v1) := Lib.hid (by rw [hv1]; repeat' (first | with_reducible exact Chg.refl _ _ _ | with_reducible refine Chg.alloc ?_ _ | with_reducible refine Chg.drew ?_ | with_reducible refine Chg.set ?_ (by omega) _))
    have t1 : w.heap.size ≤ v1.heap.size := X1.out.size
    have Ev1 : Hid (Ex w v1) := Lib.hid ((Ex.refl w).chg X1.out (by omega))
    have KR : Hid (Blk v1 (w.heap.size) 41 [.slice none 0 0, .slice none 0 0, .slice none 0 0, .int .i64 0, .int .i64 0, .int .i64 0, .int .i64 0, .slice none 0 0, .int .i64 0]) := Lib.hid (by rw [hv1]; repeat' (first | with_reducible exact Blk.new_at _ _ _ (by simp) | with_reducible refine Blk.alloc ?_ _ | with_reducible refine Blk.drew ?_ | with_reducible refine Blk.far ?_ (by simp; omega) _))
    have lR : w.heap.size < v1.heap.size := KR.out.lt
    clear hv1
    refine (C1.out _).mono ?_; rintro r w1 ⟨A1, c1, B1, d1, rfl, hf1, hf1b, hb1⟩
    have Y1 : Hid (Chg 0 0 v1 w1) := Lib.hid (Chg.of_ex hb1)
    have s1 : v1.heap.size ≤ w1.heap.size := Y1.out.size
    have Ew1 : Hid (Ex w w1) := Lib.hid (Ev1.out.chg Y1.out (by omega))
    clear hb1
    replace KR : Hid (Blk w1 (w.heap.size) 41 [.slice none 0 0, .slice none 0 0, .slice none 0 0, .int .i64 0, .int .i64 0, .int .i64 0, .int .i64 0, .slice none 0 0, .int .i64 0]) := Lib.hid (KR.out.chg Y1.out (by omega))
    have HF1 := Lib.hid hf1; clear hf1
    have WHF1 := Lib.hid HF1.out.row
    have HF1B := Lib.hid hf1b; clear hf1b
    have WHF1B := Lib.hid HF1B.out.row
    obtain ⟨qR0, qR1, qR2, qR3, qR4, qR5, qR6, qR7, qR8⟩ := KR.out.c9
    have jR := KR.out.lt
    have zR := KR.out.frozen
    skip
    skip
    go_wp2_with fail
    refine name_calls ?_; intro v2 hv2
    have X2 : Hid (Chg (0) (0) w1 v2) := Lib.hid (by rw [hv2]; repeat' (first | with_reducible exact Chg.refl _ _ _ | with_reducible refine Chg.alloc ?_ _ | with_reducible refine Chg.drew ?_ | with_reducible refine Chg.set ?_ (by omega) _))
    have t2 : w1.heap.size ≤ v2.heap.size := X2.out.size
    have Ev2 : Hid (Ex w v2) := Lib.hid (Ew1.out.chg X2.out (by omega))
    clear qR0 qR1 qR2 qR3 qR4 qR5 qR6 qR7 qR8 jR zR
    replace KR : Hid (Blk v2 (w.heap.size) 41 [.slice none 0 0, .slice none 0 0, .slice none 0 0, .int .i64 0, .int .i64 0, .int .i64 0, .int .i64 0, .slice none 0 0, .int .i64 0]) := Lib.hid (KR.out.chg X2.out (by omega))
    replace HF1 := Lib.hid (HF1.out.chg X2.out WHF1.out (by omega))
    replace HF1B := Lib.hid (HF1B.out.chg X2.out WHF1B.out (by omega))
    clear hv2
    refine (C2.out _).mono ?_; rintro r w2 ⟨A2, c2, rfl, hf2, hb2⟩
    have Y2 : Hid (Chg 0 0 v2 w2) := Lib.hid (Chg.of_ex hb2)
    have s2 : v2.heap.size ≤ w2.heap.size := Y2.out.size
    have Ew2 : Hid (Ex w w2) := Lib.hid (Ev2.out.chg Y2.out (by omega))
    clear hb2
    replace KR : Hid (Blk w2 (w.heap.size) 41 [.slice none 0 0, .slice none 0 0, .slice none 0 0, .int .i64 0, .int .i64 0, .int .i64 0, .int .i64 0, .slice none 0 0, .int .i64 0]) := Lib.hid (KR.out.chg Y2.out (by omega))
    replace HF1 := Lib.hid (HF1.out.chg Y2.out WHF1.out (by omega))
    replace HF1B := Lib.hid (HF1B.out.chg Y2.out WHF1B.out (by omega))
    have HF2 := Lib.hid hf2; clear hf2
    have WHF2 := Lib.hid HF2.out.row
    obtain ⟨qR0, qR1, qR2, qR3, qR4, qR5, qR6, qR7, qR8⟩ := KR.out.c9
    have jR := KR.out.lt
    have zR := KR.out.frozen
    go_wp2_with fail
    refine name_calls ?_; intro v3 hv3
    have X3 : Hid (Chg (0) (0) w2 v3) := Lib.hid (by rw [hv3]; repeat' (first | with_reducible exact Chg.refl _ _ _ | with_reducible refine Chg.alloc ?_ _ | with_reducible refine Chg.drew ?_ | with_reducible refine Chg.set ?_ (by omega) _))
    have t3 : w2.heap.size ≤ v3.heap.size := X3.out.size
    have Ev3 : Hid (Ex w v3) := Lib.hid (Ew2.out.chg X3.out (by omega))
    clear qR0 qR1 qR2 qR3 qR4 qR5 qR6 qR7 qR8 jR zR
    replace KR : Hid (Blk v3 (w.heap.size) 41 [.slice none 0 0, .slice none 0 0, .slice none 0 0, .int .i64 0, .int .i64 0, .int .i64 0, .int .i64 0, .slice none 0 0, .int .i64 0]) := Lib.hid (KR.out.chg X3.out (by omega))
    replace HF1 := Lib.hid (HF1.out.chg X3.out WHF1.out (by omega))
    replace HF1B := Lib.hid (HF1B.out.chg X3.out WHF1B.out (by omega))
    replace HF2 := Lib.hid (HF2.out.chg X3.out WHF2.out (by omega))
    clear hv3
    refine (C3.out _).mono ?_; rintro r w3 ⟨A3, c3, rfl, hf3, hb3⟩
    have Y3 : Hid (Chg 0 0 v3 w3) := Lib.hid (Chg.of_ex hb3)
    have s3 : v3.heap.size ≤ w3.heap.size := Y3.out.size
    have Ew3 : Hid (Ex w w3) := Lib.hid (Ev3.out.chg Y3.out (by omega))
    clear hb3
    replace KR : Hid (Blk w3 (w.heap.size) 41 [.slice none 0 0, .slice none 0 0, .slice none 0 0, .int .i64 0, .int .i64 0, .int .i64 0, .int .i64 0, .slice none 0 0, .int .i64 0]) := Lib.hid (KR.out.chg Y3.out (by omega))
    replace HF1 := Lib.hid (HF1.out.chg Y3.out WHF1.out (by omega))
    replace HF1B := Lib.hid (HF1B.out.chg Y3.out WHF1B.out (by omega))
    replace HF2 := Lib.hid (HF2.out.chg Y3.out WHF2.out (by omega))
    have HF3 := Lib.hid hf3; clear hf3
    have WHF3 := Lib.hid HF3.out.row
    obtain ⟨qR0, qR1, qR2, qR3, qR4, qR5, qR6, qR7, qR8⟩ := KR.out.c9
    have jR := KR.out.lt
    have zR := KR.out.frozen
    have hp : (p1 = false) ∨ (p1 = true ∧ p2 = false) ∨ (p1 = true ∧ p2 = true ∧ p3 = false) := by
      have := HP.out
      cases p1 <;> cases p2 <;> cases p3 <;> simp at this <;> simp
    rcases hp with rfl | ⟨rfl, rfl⟩ | ⟨rfl, rfl, rfl⟩
    all_goals
      go_wp2
      exact bodyPost_ret (v := .tuple #[.agg #[.slice none 0 0, .slice none 0 0, .slice none 0 0, .int .i64 0, .int .i64 0, .int .i64 0, .int .i64 0, .slice none 0 0, .int .i64 0], .bool false]) (by first | (simp [results, Tryd.results13, go_sem, qR0, qR1]; done) | (simp [results, Tryd.results13, go_sem, qR0, qR1, qR2, qR3, qR4, qR5, qR6, qR7, qR8, jR]; done)) rfl
        ⟨⟨none, 0, none, 0, none, 0, none, 0⟩, rfl, ⟨Fr.none_ _ _ _ _, Fr.none_ _ _ _ _, Fr.none_ _ _ _ _, Fr.none_ _ _ _ _⟩, (by repeat' (first | with_reducible exact Ew3.out | with_reducible refine Ex.alloc ?_ _ | with_reducible refine Ex.drew ?_ | with_reducible refine Ex.put ?_ (by omega) _))⟩
  · simp only [if_true]
    obtain ⟨rfl, rfl, rfl⟩ : p1 = true ∧ p2 = true ∧ p3 = true := by cases p1 <;> cases p2 <;> cases p3 <;> simp at hp <;> simp
    clear hp
    go_enter Tryd.func13, Tryd.ntmps13
    go_wp2_with fail
    refine name_calls ?_; intro v1 hv1
    have X1 : Hid (Chg (0) (0) w v1) := Lib.hid (by rw [hv1]; repeat' (first | with_reducible exact Chg.refl _ _ _ | with_reducible refine Chg.alloc ?_ _ | with_reducible refine Chg.drew ?_ | with_reducible refine Chg.set ?_ (by omega) _))
    have t1 : w.heap.size ≤ v1.heap.size := X1.out.size
    have Ev1 : Hid (Ex w v1) := Lib.hid ((Ex.refl w).chg X1.out (by omega))
    have KR : Hid (Blk v1 (w.heap.size) 41 [.slice none 0 0, .slice none 0 0, .slice none 0 0, .int .i64 0, .int .i64 0, .int .i64 0, .int .i64 0, .slice none 0 0, .int .i64 0]) := Lib.hid (by rw [hv1]; repeat' (first | with_reducible exact Blk.new_at _ _ _ (by simp) | with_reducible refine Blk.alloc ?_ _ | with_reducible refine Blk.drew ?_ | with_reducible refine Blk.far ?_ (by simp; omega) _))
    have lR : w.heap.size < v1.heap.size := KR.out.lt
    clear hv1
    refine (C1.out _).mono ?_; rintro r w1 ⟨A1, c1, B1, d1, rfl, hf1, hf1b, hb1⟩
    have Y1 : Hid (Chg 0 0 v1 w1) := Lib.hid (Chg.of_ex hb1)
    have s1 : v1.heap.size ≤ w1.heap.size := Y1.out.size
    have Ew1 : Hid (Ex w w1) := Lib.hid (Ev1.out.chg Y1.out (by omega))
    clear hb1
    replace KR : Hid (Blk w1 (w.heap.size) 41 [.slice none 0 0, .slice none 0 0, .slice none 0 0, .int .i64 0, .int .i64 0, .int .i64 0, .int .i64 0, .slice none 0 0, .int .i64 0]) := Lib.hid (KR.out.chg Y1.out (by omega))
    have HF1 := Lib.hid hf1; clear hf1
    have WHF1 := Lib.hid HF1.out.row
    have HF1B := Lib.hid hf1b; clear hf1b
    have WHF1B := Lib.hid HF1B.out.row
    obtain ⟨qR0, qR1, qR2, qR3, qR4, qR5, qR6, qR7, qR8⟩ := KR.out.c9
    have jR := KR.out.lt
    have zR := KR.out.frozen
    skip
    skip
    go_wp2_with fail
    refine name_calls ?_; intro v2 hv2
    have X2 : Hid (Chg (0) (0) w1 v2) := Lib.hid (by rw [hv2]; repeat' (first | with_reducible exact Chg.refl _ _ _ | with_reducible refine Chg.alloc ?_ _ | with_reducible refine Chg.drew ?_ | with_reducible refine Chg.set ?_ (by omega) _))
    have t2 : w1.heap.size ≤ v2.heap.size := X2.out.size
    have Ev2 : Hid (Ex w v2) := Lib.hid (Ew1.out.chg X2.out (by omega))
    clear qR0 qR1 qR2 qR3 qR4 qR5 qR6 qR7 qR8 jR zR
    replace KR : Hid (Blk v2 (w.heap.size) 41 [.slice none 0 0, .slice none 0 0, .slice none 0 0, .int .i64 0, .int .i64 0, .int .i64 0, .int .i64 0, .slice none 0 0, .int .i64 0]) := Lib.hid (KR.out.chg X2.out (by omega))
    replace HF1 := Lib.hid (HF1.out.chg X2.out WHF1.out (by omega))
    replace HF1B := Lib.hid (HF1B.out.chg X2.out WHF1B.out (by omega))
    have KT : Hid (Blk v2 (w1.heap.size) 25 [.slice A1 tb.buckets.length c1, .slice B1 tb.frames.length d1]) := Lib.hid (by rw [hv2]; repeat' (first | with_reducible exact Blk.new_at _ _ _ (by simp) | with_reducible refine Blk.alloc ?_ _ | with_reducible refine Blk.drew ?_ | with_reducible refine Blk.far ?_ (by simp; omega) _))
    have lT : w1.heap.size < v2.heap.size := KT.out.lt
    clear hv2
    refine (C2.out _).mono ?_; rintro r w2 ⟨A2, c2, rfl, hf2, hb2⟩
    have Y2 : Hid (Chg 0 0 v2 w2) := Lib.hid (Chg.of_ex hb2)
    have s2 : v2.heap.size ≤ w2.heap.size := Y2.out.size
    have Ew2 : Hid (Ex w w2) := Lib.hid (Ev2.out.chg Y2.out (by omega))
    clear hb2
    replace KR : Hid (Blk w2 (w.heap.size) 41 [.slice none 0 0, .slice none 0 0, .slice none 0 0, .int .i64 0, .int .i64 0, .int .i64 0, .int .i64 0, .slice none 0 0, .int .i64 0]) := Lib.hid (KR.out.chg Y2.out (by omega))
    replace KT : Hid (Blk w2 (w1.heap.size) 25 [.slice A1 tb.buckets.length c1, .slice B1 tb.frames.length d1]) := Lib.hid (KT.out.chg Y2.out (by omega))
    replace HF1 := Lib.hid (HF1.out.chg Y2.out WHF1.out (by omega))
    replace HF1B := Lib.hid (HF1B.out.chg Y2.out WHF1B.out (by omega))
    have HF2 := Lib.hid hf2; clear hf2
    have WHF2 := Lib.hid HF2.out.row
    obtain ⟨qR0, qR1, qR2, qR3, qR4, qR5, qR6, qR7, qR8⟩ := KR.out.c9
    have jR := KR.out.lt
    have zR := KR.out.frozen
    obtain ⟨qT0, qT1⟩ := KT.out.c2
    have jT := KT.out.lt
    go_wp2_with fail
    refine name_calls ?_; intro v3 hv3
    have X3 : Hid (Chg (0) (0) w2 v3) := Lib.hid (by rw [hv3]; repeat' (first | with_reducible exact Chg.refl _ _ _ | with_reducible refine Chg.alloc ?_ _ | with_reducible refine Chg.drew ?_ | with_reducible refine Chg.set ?_ (by omega) _))
    have t3 : w2.heap.size ≤ v3.heap.size := X3.out.size
    have Ev3 : Hid (Ex w v3) := Lib.hid (Ew2.out.chg X3.out (by omega))
    clear qR0 qR1 qR2 qR3 qR4 qR5 qR6 qR7 qR8 jR zR
    clear qT0 qT1 jT
    replace KR : Hid (Blk v3 (w.heap.size) 41 [.slice none 0 0, .slice none 0 0, .slice none 0 0, .int .i64 0, .int .i64 0, .int .i64 0, .int .i64 0, .slice none 0 0, .int .i64 0]) := Lib.hid (KR.out.chg X3.out (by omega))
    replace KT : Hid (Blk v3 (w1.heap.size) 25 [.slice A1 tb.buckets.length c1, .slice B1 tb.frames.length d1]) := Lib.hid (KT.out.chg X3.out (by omega))
    replace HF1 := Lib.hid (HF1.out.chg X3.out WHF1.out (by omega))
    replace HF1B := Lib.hid (HF1B.out.chg X3.out WHF1B.out (by omega))
    replace HF2 := Lib.hid (HF2.out.chg X3.out WHF2.out (by omega))
    have KC : Hid (Blk v3 (w2.heap.size) 36 [.slice A2 ch.lines.length c2, .int .i64 ch.hand]) := Lib.hid (by rw [hv3]; repeat' (first | with_reducible exact Blk.new_at _ _ _ (by simp) | with_reducible refine Blk.alloc ?_ _ | with_reducible refine Blk.drew ?_ | with_reducible refine Blk.far ?_ (by simp; omega) _))
    have lC : w2.heap.size < v3.heap.size := KC.out.lt
    clear hv3
    refine (C3.out _).mono ?_; rintro r w3 ⟨A3, c3, rfl, hf3, hb3⟩
    have Y3 : Hid (Chg 0 0 v3 w3) := Lib.hid (Chg.of_ex hb3)
    have s3 : v3.heap.size ≤ w3.heap.size := Y3.out.size
    have Ew3 : Hid (Ex w w3) := Lib.hid (Ev3.out.chg Y3.out (by omega))
    clear hb3
    replace KR : Hid (Blk w3 (w.heap.size) 41 [.slice none 0 0, .slice none 0 0, .slice none 0 0, .int .i64 0, .int .i64 0, .int .i64 0, .int .i64 0, .slice none 0 0, .int .i64 0]) := Lib.hid (KR.out.chg Y3.out (by omega))
    replace KT : Hid (Blk w3 (w1.heap.size) 25 [.slice A1 tb.buckets.length c1, .slice B1 tb.frames.length d1]) := Lib.hid (KT.out.chg Y3.out (by omega))
    replace KC : Hid (Blk w3 (w2.heap.size) 36 [.slice A2 ch.lines.length c2, .int .i64 ch.hand]) := Lib.hid (KC.out.chg Y3.out (by omega))
    replace HF1 := Lib.hid (HF1.out.chg Y3.out WHF1.out (by omega))
    replace HF1B := Lib.hid (HF1B.out.chg Y3.out WHF1B.out (by omega))
    replace HF2 := Lib.hid (HF2.out.chg Y3.out WHF2.out (by omega))
    have HF3 := Lib.hid hf3; clear hf3
    have WHF3 := Lib.hid HF3.out.row
    obtain ⟨qR0, qR1, qR2, qR3, qR4, qR5, qR6, qR7, qR8⟩ := KR.out.c9
    have jR := KR.out.lt
    have zR := KR.out.frozen
    obtain ⟨qT0, qT1⟩ := KT.out.c2
    have jT := KT.out.lt
    obtain ⟨qC0, qC1⟩ := KC.out.c2
    have jC := KC.out.lt
    go_wp2_with fail
    refine name_calls ?_; intro v4 hv4
    have X4 : Hid (Chg (0) (0) w3 v4) := Lib.hid (by rw [hv4]; repeat' (first | with_reducible exact Chg.refl _ _ _ | with_reducible refine Chg.alloc ?_ _ | with_reducible refine Chg.drew ?_ | with_reducible refine Chg.set ?_ (by omega) _))
    have t4 : w3.heap.size ≤ v4.heap.size := X4.out.size
    have Ev4 : Hid (Ex w v4) := Lib.hid (Ew3.out.chg X4.out (by omega))
    clear qR0 qR1 qR2 qR3 qR4 qR5 qR6 qR7 qR8 jR zR
    clear qT0 qT1 jT
    clear qC0 qC1 jC
    replace KR : Hid (Blk v4 (w.heap.size) 41 [.slice none 0 0, .slice none 0 0, .slice none 0 0, .int .i64 0, .int .i64 0, .int .i64 0, .int .i64 0, .slice none 0 0, .int .i64 0]) := Lib.hid (KR.out.chg X4.out (by omega))
    replace KT : Hid (Blk v4 (w1.heap.size) 25 [.slice A1 tb.buckets.length c1, .slice B1 tb.frames.length d1]) := Lib.hid (KT.out.chg X4.out (by omega))
    replace KC : Hid (Blk v4 (w2.heap.size) 36 [.slice A2 ch.lines.length c2, .int .i64 ch.hand]) := Lib.hid (KC.out.chg X4.out (by omega))
    replace HF1 := Lib.hid (HF1.out.chg X4.out WHF1.out (by omega))
    replace HF1B := Lib.hid (HF1B.out.chg X4.out WHF1B.out (by omega))
    replace HF2 := Lib.hid (HF2.out.chg X4.out WHF2.out (by omega))
    replace HF3 := Lib.hid (HF3.out.chg X4.out WHF3.out (by omega))
    have KG : Hid (Blk v4 (w3.heap.size) 39 [.int .i64 tg.count, .int .i64 tg.next, .int .i64 tg.round, .slice A3 tg.owns.length c3]) := Lib.hid (by rw [hv4]; repeat' (first | with_reducible exact Blk.new_at _ _ _ (by simp) | with_reducible refine Blk.alloc ?_ _ | with_reducible refine Blk.drew ?_ | with_reducible refine Blk.far ?_ (by simp; omega) _))
    have lG : w3.heap.size < v4.heap.size := KG.out.lt
    clear hv4
    refine (C4.out A3 c3 _ HF3.out.rd hg HF3.out.le HF3.out.cap).mono ?_; rintro r w4 ⟨A4, c4, rfl, hf4, hb4⟩
    have Y4 : Hid (Chg 0 0 v4 w4) := Lib.hid (Chg.of_ex hb4)
    have s4 : v4.heap.size ≤ w4.heap.size := Y4.out.size
    have Ew4 : Hid (Ex w w4) := Lib.hid (Ev4.out.chg Y4.out (by omega))
    clear hb4
    replace KR : Hid (Blk w4 (w.heap.size) 41 [.slice none 0 0, .slice none 0 0, .slice none 0 0, .int .i64 0, .int .i64 0, .int .i64 0, .int .i64 0, .slice none 0 0, .int .i64 0]) := Lib.hid (KR.out.chg Y4.out (by omega))
    replace KT : Hid (Blk w4 (w1.heap.size) 25 [.slice A1 tb.buckets.length c1, .slice B1 tb.frames.length d1]) := Lib.hid (KT.out.chg Y4.out (by omega))
    replace KC : Hid (Blk w4 (w2.heap.size) 36 [.slice A2 ch.lines.length c2, .int .i64 ch.hand]) := Lib.hid (KC.out.chg Y4.out (by omega))
    replace KG : Hid (Blk w4 (w3.heap.size) 39 [.int .i64 tg.count, .int .i64 tg.next, .int .i64 tg.round, .slice A3 tg.owns.length c3]) := Lib.hid (KG.out.chg Y4.out (by omega))
    replace HF1 := Lib.hid (HF1.out.chg Y4.out WHF1.out (by omega))
    replace HF1B := Lib.hid (HF1B.out.chg Y4.out WHF1B.out (by omega))
    replace HF2 := Lib.hid (HF2.out.chg Y4.out WHF2.out (by omega))
    replace HF3 := Lib.hid (HF3.out.chg Y4.out WHF3.out (by omega))
    have HF4 := Lib.hid hf4; clear hf4
    have WHF4 := Lib.hid HF4.out.row
    obtain ⟨qR0, qR1, qR2, qR3, qR4, qR5, qR6, qR7, qR8⟩ := KR.out.c9
    have jR := KR.out.lt
    have zR := KR.out.frozen
    obtain ⟨qT0, qT1⟩ := KT.out.c2
    have jT := KT.out.lt
    obtain ⟨qC0, qC1⟩ := KC.out.c2
    have jC := KC.out.lt
    obtain ⟨qG0, qG1, qG2, qG3⟩ := KG.out.c4
    have jG := KG.out.lt
    have zG := KG.out.frozen
    have zR := KR.out.frozen
    have hne1 : ¬ w3.heap.size = w1.heap.size := by omega
    have hne2 : ¬ w3.heap.size = w2.heap.size := by omega
    have hne3 : ¬ w3.heap.size = w.heap.size := by omega
    have hne4 : ¬ w1.heap.size = w3.heap.size := by omega
    have hne5 : ¬ w2.heap.size = w3.heap.size := by omega
    have hne6 : ¬ w.heap.size = w3.heap.size := by omega
    go_wp2
    exact bodyPost_ret (v := .tuple #[.agg #[.slice (⟨A1, c1, B1, d1, A2, c2, A4, c4⟩ : MA).b (⟨tb, ch, tk, 0⟩ : MachD).table.buckets.length (⟨A1, c1, B1, d1, A2, c2, A4, c4⟩ : MA).bc, .slice (⟨A1, c1, B1, d1, A2, c2, A4, c4⟩ : MA).f (⟨tb, ch, tk, 0⟩ : MachD).table.frames.length (⟨A1, c1, B1, d1, A2, c2, A4, c4⟩ : MA).fc, .slice (⟨A1, c1, B1, d1, A2, c2, A4, c4⟩ : MA).l (⟨tb, ch, tk, 0⟩ : MachD).cache.lines.length (⟨A1, c1, B1, d1, A2, c2, A4, c4⟩ : MA).lc, .int .i64 (⟨tb, ch, tk, 0⟩ : MachD).cache.hand, .int .i64 (⟨tb, ch, tk, 0⟩ : MachD).tags.count, .int .i64 (⟨tb, ch, tk, 0⟩ : MachD).tags.next, .int .i64 (⟨tb, ch, tk, 0⟩ : MachD).tags.round, .slice (⟨A1, c1, B1, d1, A2, c2, A4, c4⟩ : MA).o (⟨tb, ch, tk, 0⟩ : MachD).tags.owns.length (⟨A1, c1, B1, d1, A2, c2, A4, c4⟩ : MA).oc, .int .i64 (⟨tb, ch, tk, 0⟩ : MachD).space], .bool true]) (by first | (simp [results, Tryd.results13, go_sem, qR0, qR1]; done) | (simp [results, Tryd.results13, go_sem, qR0, qR1, qR2, qR3, qR4, qR5, qR6, qR7, qR8, jR]; done)) rfl
      ⟨⟨A1, c1, B1, d1, A2, c2, A4, c4⟩, rfl, ⟨Fr.mono (B := v1.heap.size) (by repeat' (first | with_reducible exact HF1.out | with_reducible refine Fr.alloc ?_ _ | with_reducible refine Fr.put ?_ (fun b hb => by have := WHF1.out b hb; omega) _)) (by omega), Fr.mono (B := v1.heap.size) (by repeat' (first | with_reducible exact HF1B.out | with_reducible refine Fr.alloc ?_ _ | with_reducible refine Fr.put ?_ (fun b hb => by have := WHF1B.out b hb; omega) _)) (by omega), Fr.mono (B := v2.heap.size) (by repeat' (first | with_reducible exact HF2.out | with_reducible refine Fr.alloc ?_ _ | with_reducible refine Fr.put ?_ (fun b hb => by have := WHF2.out b hb; omega) _)) (by omega), Fr.mono (B := v4.heap.size) (by repeat' (first | with_reducible exact HF4.out | with_reducible refine Fr.alloc ?_ _ | with_reducible refine Fr.put ?_ (fun b hb => by have := WHF4.out b hb; omega) _)) (by omega)⟩, (by repeat' (first | with_reducible exact Ew4.out | with_reducible refine Ex.alloc ?_ _ | with_reducible refine Ex.drew ?_ | with_reducible refine Ex.put ?_ (by omega) _))⟩

set_option maxHeartbeats 8000000 in
theorem newMachI_c (f b l t : Int) (w : World) (hv : FreeV w) : Calls Tryd.prog 14 #[.int .i64 f, .int .i64 b, .int .i64 l, .int .i64 t] w
    (MadeMach (newMach f b l t) w) := by
  have C1 := Lib.hid (fun w' (h : Ex w w') => newTableI_c f b w' (hv.ex h))
  have C2 := Lib.hid (fun w' => newCacheI_c l w')
  have C3 := Lib.hid (fun w' => newTagsI_c t w')
  have C4 := Lib.hid (takeTagI_c (newTags t).1 0)
  have hg8 := newTags_few t
  unfold newMach
  generalize newTable f b = q1 at C1 ⊢
  generalize newCache l = q2 at C2 ⊢
  generalize newTags t = q3 at C3 C4 hg8 ⊢
  obtain ⟨tb, p1⟩ := q1
  obtain ⟨ch, p2⟩ := q2
  obtain ⟨tg, p3⟩ := q3
  dsimp only at C1 C2 C3 C4 hg8 ⊢
  generalize hk : takeTag tg 0 = k at C4 ⊢
  obtain ⟨tk, k1, k2, k3⟩ := k
  dsimp only at C4 ⊢
  have hg : tg.owns.length ≤ 1048576 := by omega
  clear hk hg8 hv
  cases hp : (p1 && (p2 && p3))
  · simp only [Bool.false_eq_true, if_false]
    have HP := Lib.hid hp
    clear hp
    go_enter Tryd.func14, Tryd.ntmps14
    go_wp2_with fail
    refine name_calls ?_; intro v1 hv1
    have X1 : Hid (Chg (0) (0) w v1) := Lib.hid (by rw [hv1]; repeat' (first | with_reducible exact Chg.refl _ _ _ | with_reducible refine Chg.alloc ?_ _ | with_reducible refine Chg.drew ?_ | with_reducible refine Chg.set ?_ (by omega) _))
    have t1 : w.heap.size ≤ v1.heap.size := X1.out.size
    have Ev1 : Hid (Ex w v1) := Lib.hid ((Ex.refl w).chg X1.out (by omega))
    have KR : Hid (Blk v1 (w.heap.size) 41 [.slice none 0 0, .slice none 0 0, .slice none 0 0, .int .i64 0, .int .i64 0, .int .i64 0, .int .i64 0, .slice none 0 0, .int .i64 0]) := Lib.hid (by rw [hv1]; repeat' (first | with_reducible exact Blk.new_at _ _ _ (by simp) | with_reducible refine Blk.alloc ?_ _ | with_reducible refine Blk.drew ?_ | with_reducible refine Blk.far ?_ (by simp; omega) _))
    have lR : w.heap.size < v1.heap.size := KR.out.lt
    clear hv1
    refine (C1.out _ Ev1.out).mono ?_; rintro r w1 ⟨A1, c1, B1, d1, m1, rfl, hf1, hf1b, hhra1, hhm1, hhm2, hb1⟩
    have Y1 : Hid (Chg 0 0 v1 w1) := Lib.hid (Chg.of_ex hb1)
    have s1 : v1.heap.size ≤ w1.heap.size := Y1.out.size
    have Ew1 : Hid (Ex w w1) := Lib.hid (Ev1.out.chg Y1.out (by omega))
    clear hb1
    replace KR : Hid (Blk w1 (w.heap.size) 41 [.slice none 0 0, .slice none 0 0, .slice none 0 0, .int .i64 0, .int .i64 0, .int .i64 0, .int .i64 0, .slice none 0 0, .int .i64 0]) := Lib.hid (KR.out.chg Y1.out (by omega))
    have HF1 := Lib.hid hf1; clear hf1
    have WHF1 := Lib.hid HF1.out.row
    have HF1B := Lib.hid hf1b; clear hf1b
    have WHF1B := Lib.hid HF1B.out.row
    have HHRA1 := Lib.hid hhra1; clear hhra1
    have HHM1 := Lib.hid hhm1; clear hhm1
    have HHM2 := Lib.hid hhm2; clear hhm2
    obtain ⟨qR0, qR1, qR2, qR3, qR4, qR5, qR6, qR7, qR8⟩ := KR.out.c9
    have jR := KR.out.lt
    have zR := KR.out.frozen
    have hm1a := HHM1.out
    have hm1b := HHM2.out
    go_wp2_with fail
    refine name_calls ?_; intro v2 hv2
    have X2 : Hid (Chg (0) (0) w1 v2) := Lib.hid (by rw [hv2]; repeat' (first | with_reducible exact Chg.refl _ _ _ | with_reducible refine Chg.alloc ?_ _ | with_reducible refine Chg.drew ?_ | with_reducible refine Chg.set ?_ (by omega) _))
    have t2 : w1.heap.size ≤ v2.heap.size := X2.out.size
    have Ev2 : Hid (Ex w v2) := Lib.hid (Ew1.out.chg X2.out (by omega))
    clear qR0 qR1 qR2 qR3 qR4 qR5 qR6 qR7 qR8 jR zR
    replace KR : Hid (Blk v2 (w.heap.size) 41 [.slice none 0 0, .slice none 0 0, .slice none 0 0, .int .i64 0, .int .i64 0, .int .i64 0, .int .i64 0, .slice none 0 0, .int .i64 0]) := Lib.hid (KR.out.chg X2.out (by omega))
    replace HF1 := Lib.hid (HF1.out.chg X2.out WHF1.out (by omega))
    replace HF1B := Lib.hid (HF1B.out.chg X2.out WHF1B.out (by omega))
    clear hv2
    refine (C2.out _).mono ?_; rintro r w2 ⟨A2, c2, rfl, hf2, hb2⟩
    have Y2 : Hid (Chg 0 0 v2 w2) := Lib.hid (Chg.of_ex hb2)
    have s2 : v2.heap.size ≤ w2.heap.size := Y2.out.size
    have Ew2 : Hid (Ex w w2) := Lib.hid (Ev2.out.chg Y2.out (by omega))
    clear hb2
    replace KR : Hid (Blk w2 (w.heap.size) 41 [.slice none 0 0, .slice none 0 0, .slice none 0 0, .int .i64 0, .int .i64 0, .int .i64 0, .int .i64 0, .slice none 0 0, .int .i64 0]) := Lib.hid (KR.out.chg Y2.out (by omega))
    replace HF1 := Lib.hid (HF1.out.chg Y2.out WHF1.out (by omega))
    replace HF1B := Lib.hid (HF1B.out.chg Y2.out WHF1B.out (by omega))
    have HF2 := Lib.hid hf2; clear hf2
    have WHF2 := Lib.hid HF2.out.row
    obtain ⟨qR0, qR1, qR2, qR3, qR4, qR5, qR6, qR7, qR8⟩ := KR.out.c9
    have jR := KR.out.lt
    have zR := KR.out.frozen
    go_wp2_with fail
    refine name_calls ?_; intro v3 hv3
    have X3 : Hid (Chg (0) (0) w2 v3) := Lib.hid (by rw [hv3]; repeat' (first | with_reducible exact Chg.refl _ _ _ | with_reducible refine Chg.alloc ?_ _ | with_reducible refine Chg.drew ?_ | with_reducible refine Chg.set ?_ (by omega) _))
    have t3 : w2.heap.size ≤ v3.heap.size := X3.out.size
    have Ev3 : Hid (Ex w v3) := Lib.hid (Ew2.out.chg X3.out (by omega))
    clear qR0 qR1 qR2 qR3 qR4 qR5 qR6 qR7 qR8 jR zR
    replace KR : Hid (Blk v3 (w.heap.size) 41 [.slice none 0 0, .slice none 0 0, .slice none 0 0, .int .i64 0, .int .i64 0, .int .i64 0, .int .i64 0, .slice none 0 0, .int .i64 0]) := Lib.hid (KR.out.chg X3.out (by omega))
    replace HF1 := Lib.hid (HF1.out.chg X3.out WHF1.out (by omega))
    replace HF1B := Lib.hid (HF1B.out.chg X3.out WHF1B.out (by omega))
    replace HF2 := Lib.hid (HF2.out.chg X3.out WHF2.out (by omega))
    clear hv3
    refine (C3.out _).mono ?_; rintro r w3 ⟨A3, c3, rfl, hf3, hb3⟩
    have Y3 : Hid (Chg 0 0 v3 w3) := Lib.hid (Chg.of_ex hb3)
    have s3 : v3.heap.size ≤ w3.heap.size := Y3.out.size
    have Ew3 : Hid (Ex w w3) := Lib.hid (Ev3.out.chg Y3.out (by omega))
    clear hb3
    replace KR : Hid (Blk w3 (w.heap.size) 41 [.slice none 0 0, .slice none 0 0, .slice none 0 0, .int .i64 0, .int .i64 0, .int .i64 0, .int .i64 0, .slice none 0 0, .int .i64 0]) := Lib.hid (KR.out.chg Y3.out (by omega))
    replace HF1 := Lib.hid (HF1.out.chg Y3.out WHF1.out (by omega))
    replace HF1B := Lib.hid (HF1B.out.chg Y3.out WHF1B.out (by omega))
    replace HF2 := Lib.hid (HF2.out.chg Y3.out WHF2.out (by omega))
    have HF3 := Lib.hid hf3; clear hf3
    have WHF3 := Lib.hid HF3.out.row
    obtain ⟨qR0, qR1, qR2, qR3, qR4, qR5, qR6, qR7, qR8⟩ := KR.out.c9
    have jR := KR.out.lt
    have zR := KR.out.frozen
    have hp : (p1 = false) ∨ (p1 = true ∧ p2 = false) ∨ (p1 = true ∧ p2 = true ∧ p3 = false) := by
      have := HP.out
      cases p1 <;> cases p2 <;> cases p3 <;> simp at this <;> simp
    rcases hp with rfl | ⟨rfl, rfl⟩ | ⟨rfl, rfl, rfl⟩
    all_goals
      go_wp2
      exact bodyPost_ret (v := .tuple #[.agg #[.slice none 0 0, .slice none 0 0, .slice none 0 0, .int .i64 0, .int .i64 0, .int .i64 0, .int .i64 0, .slice none 0 0, .int .i64 0], .bool false]) (by first | (simp [results, Tryd.results14, go_sem, qR0, qR1]; done) | (simp [results, Tryd.results14, go_sem, qR0, qR1, qR2, qR3, qR4, qR5, qR6, qR7, qR8, jR]; done)) rfl
        ⟨⟨none, 0, none, 0, none, 0, none, 0⟩, w.heap.size, w.heap.size, w.heap.size, rfl, Fr.none_ _ _ _ _, Fr.none_ _ _ _ _, Fr.none_ _ _ _ _, Fr.none_ _ _ _ _, ⟨fun x e => by simp [rowOf] at e, fun x e => by simp [rowOf] at e, fun x e => by simp [rowOf] at e⟩, ⟨Nat.le_refl _, Nat.le_refl _, Nat.le_refl _, Ex.size (by repeat' (first | with_reducible exact Ew3.out | with_reducible refine Ex.alloc ?_ _ | with_reducible refine Ex.drew ?_ | with_reducible refine Ex.put ?_ (by omega) _))⟩, (by repeat' (first | with_reducible exact Ew3.out | with_reducible refine Ex.alloc ?_ _ | with_reducible refine Ex.drew ?_ | with_reducible refine Ex.put ?_ (by omega) _))⟩
  · simp only [if_true]
    obtain ⟨rfl, rfl, rfl⟩ : p1 = true ∧ p2 = true ∧ p3 = true := by cases p1 <;> cases p2 <;> cases p3 <;> simp at hp <;> simp
    clear hp
    go_enter Tryd.func14, Tryd.ntmps14
    go_wp2_with fail
    refine name_calls ?_; intro v1 hv1
    have X1 : Hid (Chg (0) (0) w v1) := Lib.hid (by rw [hv1]; repeat' (first | with_reducible exact Chg.refl _ _ _ | with_reducible refine Chg.alloc ?_ _ | with_reducible refine Chg.drew ?_ | with_reducible refine Chg.set ?_ (by omega) _))
    have t1 : w.heap.size ≤ v1.heap.size := X1.out.size
    have Ev1 : Hid (Ex w v1) := Lib.hid ((Ex.refl w).chg X1.out (by omega))
    have KR : Hid (Blk v1 (w.heap.size) 41 [.slice none 0 0, .slice none 0 0, .slice none 0 0, .int .i64 0, .int .i64 0, .int .i64 0, .int .i64 0, .slice none 0 0, .int .i64 0]) := Lib.hid (by rw [hv1]; repeat' (first | with_reducible exact Blk.new_at _ _ _ (by simp) | with_reducible refine Blk.alloc ?_ _ | with_reducible refine Blk.drew ?_ | with_reducible refine Blk.far ?_ (by simp; omega) _))
    have lR : w.heap.size < v1.heap.size := KR.out.lt
    clear hv1
    refine (C1.out _ Ev1.out).mono ?_; rintro r w1 ⟨A1, c1, B1, d1, m1, rfl, hf1, hf1b, hhra1, hhm1, hhm2, hb1⟩
    have Y1 : Hid (Chg 0 0 v1 w1) := Lib.hid (Chg.of_ex hb1)
    have s1 : v1.heap.size ≤ w1.heap.size := Y1.out.size
    have Ew1 : Hid (Ex w w1) := Lib.hid (Ev1.out.chg Y1.out (by omega))
    clear hb1
    replace KR : Hid (Blk w1 (w.heap.size) 41 [.slice none 0 0, .slice none 0 0, .slice none 0 0, .int .i64 0, .int .i64 0, .int .i64 0, .int .i64 0, .slice none 0 0, .int .i64 0]) := Lib.hid (KR.out.chg Y1.out (by omega))
    have HF1 := Lib.hid hf1; clear hf1
    have WHF1 := Lib.hid HF1.out.row
    have HF1B := Lib.hid hf1b; clear hf1b
    have WHF1B := Lib.hid HF1B.out.row
    have HHRA1 := Lib.hid hhra1; clear hhra1
    have HHM1 := Lib.hid hhm1; clear hhm1
    have HHM2 := Lib.hid hhm2; clear hhm2
    obtain ⟨qR0, qR1, qR2, qR3, qR4, qR5, qR6, qR7, qR8⟩ := KR.out.c9
    have jR := KR.out.lt
    have zR := KR.out.frozen
    have hm1a := HHM1.out
    have hm1b := HHM2.out
    go_wp2_with fail
    refine name_calls ?_; intro v2 hv2
    have X2 : Hid (Chg (0) (0) w1 v2) := Lib.hid (by rw [hv2]; repeat' (first | with_reducible exact Chg.refl _ _ _ | with_reducible refine Chg.alloc ?_ _ | with_reducible refine Chg.drew ?_ | with_reducible refine Chg.set ?_ (by omega) _))
    have t2 : w1.heap.size ≤ v2.heap.size := X2.out.size
    have Ev2 : Hid (Ex w v2) := Lib.hid (Ew1.out.chg X2.out (by omega))
    clear qR0 qR1 qR2 qR3 qR4 qR5 qR6 qR7 qR8 jR zR
    replace KR : Hid (Blk v2 (w.heap.size) 41 [.slice none 0 0, .slice none 0 0, .slice none 0 0, .int .i64 0, .int .i64 0, .int .i64 0, .int .i64 0, .slice none 0 0, .int .i64 0]) := Lib.hid (KR.out.chg X2.out (by omega))
    replace HF1 := Lib.hid (HF1.out.chg X2.out WHF1.out (by omega))
    replace HF1B := Lib.hid (HF1B.out.chg X2.out WHF1B.out (by omega))
    have KT : Hid (Blk v2 (w1.heap.size) 25 [.slice A1 tb.buckets.length c1, .slice B1 tb.frames.length d1]) := Lib.hid (by rw [hv2]; repeat' (first | with_reducible exact Blk.new_at _ _ _ (by simp) | with_reducible refine Blk.alloc ?_ _ | with_reducible refine Blk.drew ?_ | with_reducible refine Blk.far ?_ (by simp; omega) _))
    have lT : w1.heap.size < v2.heap.size := KT.out.lt
    clear hv2
    refine (C2.out _).mono ?_; rintro r w2 ⟨A2, c2, rfl, hf2, hb2⟩
    have Y2 : Hid (Chg 0 0 v2 w2) := Lib.hid (Chg.of_ex hb2)
    have s2 : v2.heap.size ≤ w2.heap.size := Y2.out.size
    have Ew2 : Hid (Ex w w2) := Lib.hid (Ev2.out.chg Y2.out (by omega))
    clear hb2
    replace KR : Hid (Blk w2 (w.heap.size) 41 [.slice none 0 0, .slice none 0 0, .slice none 0 0, .int .i64 0, .int .i64 0, .int .i64 0, .int .i64 0, .slice none 0 0, .int .i64 0]) := Lib.hid (KR.out.chg Y2.out (by omega))
    replace KT : Hid (Blk w2 (w1.heap.size) 25 [.slice A1 tb.buckets.length c1, .slice B1 tb.frames.length d1]) := Lib.hid (KT.out.chg Y2.out (by omega))
    replace HF1 := Lib.hid (HF1.out.chg Y2.out WHF1.out (by omega))
    replace HF1B := Lib.hid (HF1B.out.chg Y2.out WHF1B.out (by omega))
    have HF2 := Lib.hid hf2; clear hf2
    have WHF2 := Lib.hid HF2.out.row
    obtain ⟨qR0, qR1, qR2, qR3, qR4, qR5, qR6, qR7, qR8⟩ := KR.out.c9
    have jR := KR.out.lt
    have zR := KR.out.frozen
    obtain ⟨qT0, qT1⟩ := KT.out.c2
    have jT := KT.out.lt
    go_wp2_with fail
    refine name_calls ?_; intro v3 hv3
    have X3 : Hid (Chg (0) (0) w2 v3) := Lib.hid (by rw [hv3]; repeat' (first | with_reducible exact Chg.refl _ _ _ | with_reducible refine Chg.alloc ?_ _ | with_reducible refine Chg.drew ?_ | with_reducible refine Chg.set ?_ (by omega) _))
    have t3 : w2.heap.size ≤ v3.heap.size := X3.out.size
    have Ev3 : Hid (Ex w v3) := Lib.hid (Ew2.out.chg X3.out (by omega))
    clear qR0 qR1 qR2 qR3 qR4 qR5 qR6 qR7 qR8 jR zR
    clear qT0 qT1 jT
    replace KR : Hid (Blk v3 (w.heap.size) 41 [.slice none 0 0, .slice none 0 0, .slice none 0 0, .int .i64 0, .int .i64 0, .int .i64 0, .int .i64 0, .slice none 0 0, .int .i64 0]) := Lib.hid (KR.out.chg X3.out (by omega))
    replace KT : Hid (Blk v3 (w1.heap.size) 25 [.slice A1 tb.buckets.length c1, .slice B1 tb.frames.length d1]) := Lib.hid (KT.out.chg X3.out (by omega))
    replace HF1 := Lib.hid (HF1.out.chg X3.out WHF1.out (by omega))
    replace HF1B := Lib.hid (HF1B.out.chg X3.out WHF1B.out (by omega))
    replace HF2 := Lib.hid (HF2.out.chg X3.out WHF2.out (by omega))
    have KC : Hid (Blk v3 (w2.heap.size) 36 [.slice A2 ch.lines.length c2, .int .i64 ch.hand]) := Lib.hid (by rw [hv3]; repeat' (first | with_reducible exact Blk.new_at _ _ _ (by simp) | with_reducible refine Blk.alloc ?_ _ | with_reducible refine Blk.drew ?_ | with_reducible refine Blk.far ?_ (by simp; omega) _))
    have lC : w2.heap.size < v3.heap.size := KC.out.lt
    clear hv3
    refine (C3.out _).mono ?_; rintro r w3 ⟨A3, c3, rfl, hf3, hb3⟩
    have Y3 : Hid (Chg 0 0 v3 w3) := Lib.hid (Chg.of_ex hb3)
    have s3 : v3.heap.size ≤ w3.heap.size := Y3.out.size
    have Ew3 : Hid (Ex w w3) := Lib.hid (Ev3.out.chg Y3.out (by omega))
    clear hb3
    replace KR : Hid (Blk w3 (w.heap.size) 41 [.slice none 0 0, .slice none 0 0, .slice none 0 0, .int .i64 0, .int .i64 0, .int .i64 0, .int .i64 0, .slice none 0 0, .int .i64 0]) := Lib.hid (KR.out.chg Y3.out (by omega))
    replace KT : Hid (Blk w3 (w1.heap.size) 25 [.slice A1 tb.buckets.length c1, .slice B1 tb.frames.length d1]) := Lib.hid (KT.out.chg Y3.out (by omega))
    replace KC : Hid (Blk w3 (w2.heap.size) 36 [.slice A2 ch.lines.length c2, .int .i64 ch.hand]) := Lib.hid (KC.out.chg Y3.out (by omega))
    replace HF1 := Lib.hid (HF1.out.chg Y3.out WHF1.out (by omega))
    replace HF1B := Lib.hid (HF1B.out.chg Y3.out WHF1B.out (by omega))
    replace HF2 := Lib.hid (HF2.out.chg Y3.out WHF2.out (by omega))
    have HF3 := Lib.hid hf3; clear hf3
    have WHF3 := Lib.hid HF3.out.row
    obtain ⟨qR0, qR1, qR2, qR3, qR4, qR5, qR6, qR7, qR8⟩ := KR.out.c9
    have jR := KR.out.lt
    have zR := KR.out.frozen
    obtain ⟨qT0, qT1⟩ := KT.out.c2
    have jT := KT.out.lt
    obtain ⟨qC0, qC1⟩ := KC.out.c2
    have jC := KC.out.lt
    go_wp2_with fail
    refine name_calls ?_; intro v4 hv4
    have X4 : Hid (Chg (0) (0) w3 v4) := Lib.hid (by rw [hv4]; repeat' (first | with_reducible exact Chg.refl _ _ _ | with_reducible refine Chg.alloc ?_ _ | with_reducible refine Chg.drew ?_ | with_reducible refine Chg.set ?_ (by omega) _))
    have t4 : w3.heap.size ≤ v4.heap.size := X4.out.size
    have Ev4 : Hid (Ex w v4) := Lib.hid (Ew3.out.chg X4.out (by omega))
    clear qR0 qR1 qR2 qR3 qR4 qR5 qR6 qR7 qR8 jR zR
    clear qT0 qT1 jT
    clear qC0 qC1 jC
    replace KR : Hid (Blk v4 (w.heap.size) 41 [.slice none 0 0, .slice none 0 0, .slice none 0 0, .int .i64 0, .int .i64 0, .int .i64 0, .int .i64 0, .slice none 0 0, .int .i64 0]) := Lib.hid (KR.out.chg X4.out (by omega))
    replace KT : Hid (Blk v4 (w1.heap.size) 25 [.slice A1 tb.buckets.length c1, .slice B1 tb.frames.length d1]) := Lib.hid (KT.out.chg X4.out (by omega))
    replace KC : Hid (Blk v4 (w2.heap.size) 36 [.slice A2 ch.lines.length c2, .int .i64 ch.hand]) := Lib.hid (KC.out.chg X4.out (by omega))
    replace HF1 := Lib.hid (HF1.out.chg X4.out WHF1.out (by omega))
    replace HF1B := Lib.hid (HF1B.out.chg X4.out WHF1B.out (by omega))
    replace HF2 := Lib.hid (HF2.out.chg X4.out WHF2.out (by omega))
    replace HF3 := Lib.hid (HF3.out.chg X4.out WHF3.out (by omega))
    have KG : Hid (Blk v4 (w3.heap.size) 39 [.int .i64 tg.count, .int .i64 tg.next, .int .i64 tg.round, .slice A3 tg.owns.length c3]) := Lib.hid (by rw [hv4]; repeat' (first | with_reducible exact Blk.new_at _ _ _ (by simp) | with_reducible refine Blk.alloc ?_ _ | with_reducible refine Blk.drew ?_ | with_reducible refine Blk.far ?_ (by simp; omega) _))
    have lG : w3.heap.size < v4.heap.size := KG.out.lt
    clear hv4
    refine (C4.out A3 c3 _ HF3.out.rd hg HF3.out.le HF3.out.cap).mono ?_; rintro r w4 ⟨A4, c4, rfl, hf4, hb4⟩
    have Y4 : Hid (Chg 0 0 v4 w4) := Lib.hid (Chg.of_ex hb4)
    have s4 : v4.heap.size ≤ w4.heap.size := Y4.out.size
    have Ew4 : Hid (Ex w w4) := Lib.hid (Ev4.out.chg Y4.out (by omega))
    clear hb4
    replace KR : Hid (Blk w4 (w.heap.size) 41 [.slice none 0 0, .slice none 0 0, .slice none 0 0, .int .i64 0, .int .i64 0, .int .i64 0, .int .i64 0, .slice none 0 0, .int .i64 0]) := Lib.hid (KR.out.chg Y4.out (by omega))
    replace KT : Hid (Blk w4 (w1.heap.size) 25 [.slice A1 tb.buckets.length c1, .slice B1 tb.frames.length d1]) := Lib.hid (KT.out.chg Y4.out (by omega))
    replace KC : Hid (Blk w4 (w2.heap.size) 36 [.slice A2 ch.lines.length c2, .int .i64 ch.hand]) := Lib.hid (KC.out.chg Y4.out (by omega))
    replace KG : Hid (Blk w4 (w3.heap.size) 39 [.int .i64 tg.count, .int .i64 tg.next, .int .i64 tg.round, .slice A3 tg.owns.length c3]) := Lib.hid (KG.out.chg Y4.out (by omega))
    replace HF1 := Lib.hid (HF1.out.chg Y4.out WHF1.out (by omega))
    replace HF1B := Lib.hid (HF1B.out.chg Y4.out WHF1B.out (by omega))
    replace HF2 := Lib.hid (HF2.out.chg Y4.out WHF2.out (by omega))
    replace HF3 := Lib.hid (HF3.out.chg Y4.out WHF3.out (by omega))
    have HF4 := Lib.hid hf4; clear hf4
    have WHF4 := Lib.hid HF4.out.row
    obtain ⟨qR0, qR1, qR2, qR3, qR4, qR5, qR6, qR7, qR8⟩ := KR.out.c9
    have jR := KR.out.lt
    have zR := KR.out.frozen
    obtain ⟨qT0, qT1⟩ := KT.out.c2
    have jT := KT.out.lt
    obtain ⟨qC0, qC1⟩ := KC.out.c2
    have jC := KC.out.lt
    obtain ⟨qG0, qG1, qG2, qG3⟩ := KG.out.c4
    have jG := KG.out.lt
    have zG := KG.out.frozen
    have zR := KR.out.frozen
    have hne1 : ¬ w3.heap.size = w1.heap.size := by omega
    have hne2 : ¬ w3.heap.size = w2.heap.size := by omega
    have hne3 : ¬ w3.heap.size = w.heap.size := by omega
    have hne4 : ¬ w1.heap.size = w3.heap.size := by omega
    have hne5 : ¬ w2.heap.size = w3.heap.size := by omega
    have hne6 : ¬ w.heap.size = w3.heap.size := by omega
    go_wp2
    exact bodyPost_ret (v := .tuple #[.agg #[.slice (⟨A1, c1, B1, d1, A2, c2, A4, c4⟩ : MA).b (⟨tb, ch, tk, 0⟩ : MachD).table.buckets.length (⟨A1, c1, B1, d1, A2, c2, A4, c4⟩ : MA).bc, .slice (⟨A1, c1, B1, d1, A2, c2, A4, c4⟩ : MA).f (⟨tb, ch, tk, 0⟩ : MachD).table.frames.length (⟨A1, c1, B1, d1, A2, c2, A4, c4⟩ : MA).fc, .slice (⟨A1, c1, B1, d1, A2, c2, A4, c4⟩ : MA).l (⟨tb, ch, tk, 0⟩ : MachD).cache.lines.length (⟨A1, c1, B1, d1, A2, c2, A4, c4⟩ : MA).lc, .int .i64 (⟨tb, ch, tk, 0⟩ : MachD).cache.hand, .int .i64 (⟨tb, ch, tk, 0⟩ : MachD).tags.count, .int .i64 (⟨tb, ch, tk, 0⟩ : MachD).tags.next, .int .i64 (⟨tb, ch, tk, 0⟩ : MachD).tags.round, .slice (⟨A1, c1, B1, d1, A2, c2, A4, c4⟩ : MA).o (⟨tb, ch, tk, 0⟩ : MachD).tags.owns.length (⟨A1, c1, B1, d1, A2, c2, A4, c4⟩ : MA).oc, .int .i64 (⟨tb, ch, tk, 0⟩ : MachD).space], .bool true]) (by first | (simp [results, Tryd.results14, go_sem, qR0, qR1]; done) | (simp [results, Tryd.results14, go_sem, qR0, qR1, qR2, qR3, qR4, qR5, qR6, qR7, qR8, jR]; done)) rfl
      ⟨⟨A1, c1, B1, d1, A2, c2, A4, c4⟩, m1, v2.heap.size, v4.heap.size, rfl, Fr.mono (B := v1.heap.size) (by repeat' (first | with_reducible exact HF1.out | with_reducible refine Fr.alloc ?_ _ | with_reducible refine Fr.put ?_ (fun b hb => by have := WHF1.out b hb; omega) _)) (by omega), (by repeat' (first | with_reducible exact HF1B.out | with_reducible refine Fr.alloc ?_ _ | with_reducible refine Fr.put ?_ (fun b hb => by have := WHF1B.out b hb; omega) _)), (by repeat' (first | with_reducible exact HF2.out | with_reducible refine Fr.alloc ?_ _ | with_reducible refine Fr.put ?_ (fun b hb => by have := WHF2.out b hb; omega) _)), (by repeat' (first | with_reducible exact HF4.out | with_reducible refine Fr.alloc ?_ _ | with_reducible refine Fr.put ?_ (fun b hb => by have := WHF4.out b hb; omega) _)), ⟨fun x e => HHRA1.out x e, fun x e => by have := WHF1B.out x e; omega, fun x e => by have := WHF2.out x e; omega⟩, ⟨by omega, by omega, by omega, by simp; omega⟩, (by repeat' (first | with_reducible exact Ew4.out | with_reducible refine Ex.alloc ?_ _ | with_reducible refine Ex.drew ?_ | with_reducible refine Ex.put ?_ (by omega) _))⟩
end Go.Proofs.YtkoegcalfibinaaDoor
