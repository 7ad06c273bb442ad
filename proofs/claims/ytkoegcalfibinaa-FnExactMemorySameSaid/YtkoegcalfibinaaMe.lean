/- Contracts over whole memories. -/
import Derived.Test.YtkoegcalfibinaaMs
import Derived.Test.YtkoegcalfibinaaMb
namespace Go.Proofs.Ytkoegcalfibinaa
open Go.ChangeShapes Go.WideShapes Go.ChangeAt Go.RowKit
open Rec (sz cs)
set_option linter.unusedVariables false
set_option maxRecDepth 100000

def sumE (m : MemD) : Nat := sumM m.mach + m.marks.length

/-- A memory's slices read as its lists. -/
structure HasE (w : World) (e : MemD) (a : MA) (K : Option Addr) : Prop where
  m : HasM w e.mach a
  k : Rd w K e.marks
theorem HasE.ex {w w' : World} {m : MemD} {a : MA} {K : Option Addr} (h : HasE w m a K) (k : Ex w w') : HasE w' m a K := ⟨h.m.ex k, h.k.ex k⟩
theorem HasE.drew {w : World} {m : MemD} {a : MA} {K : Option Addr} (h : HasE w m a K) : HasE w.drew m a K := ⟨h.m.drew, h.k⟩
structure FewE (e : MemD) : Prop where
  m : FewM e.mach
  k : e.marks.length ≤ 1048576
structure LenE (e : MemD) : Prop where
  m : LenM e.mach
  k : e.marks.length ≤ maxLen
structure CapE (e : MemD) (a : MA) (kc : Nat) : Prop where
  m : CapM e.mach a
  k : e.marks.length ≤ kc
theorem FewE.of_sum {m : MemD} (h : sumE m ≤ 1048576) : FewE m := by
  unfold sumE at h
  exact ⟨FewM.of_sum (by omega), by omega⟩

/-- A memory's slices are the call's own. -/
structure FrE (w : World) (B : Nat) (e : MemD) (a : MA) (K : Option Addr) (kc : Nat) : Prop where
  m : FrM w B e.mach a
  k : Fr 4 w B K kc e.marks
theorem FrE.has {w : World} {B : Nat} {m : MemD} {a : MA} {K : Option Addr} {k : Nat} (h : FrE w B m a K k) : HasE w m a K := ⟨h.m.has, h.k.rd⟩
theorem FrE.cap {w : World} {B : Nat} {m : MemD} {a : MA} {K : Option Addr} {k : Nat} (h : FrE w B m a K k) : CapE m a k := ⟨h.m.cap, h.k.le⟩
theorem FrE.ex {w w' : World} {B : Nat} {m : MemD} {a : MA} {K : Option Addr} {k : Nat} (h : FrE w B m a K k) (e : Ex w w') : FrE w' B m a K k := ⟨h.m.ex e, h.k.ex e⟩

set_option maxHeartbeats 1000000 in
theorem szMemory_c (m : MemD) (a : MA) (K : Option Addr) (k : Nat) (l : Int) (w : World) (h0 : 0 ≤ l) (h1 : l ≤ 1048576) (hm : LenE m) :
    Calls Try.prog 16 #[.agg #[.slice a.b m.mach.table.buckets.length a.bc, .slice a.f m.mach.table.frames.length a.fc, .slice a.l m.mach.cache.lines.length a.lc, .int .i64 m.mach.cache.hand, .int .i64 m.mach.tags.count, .int .i64 m.mach.tags.next, .int .i64 m.mach.tags.round, .slice a.o m.mach.tags.owns.length a.oc, .int .i64 m.mach.space, .slice K m.marks.length k, .int .i64 m.hand], .int .i64 l] w fun r w' => r = .returned (.int .i64 (szI l (sumE m))) ∧ Ex w w' := by
  have C1 := Lib.hid (fun w => szMachine_c m.mach a l w h0 h1 hm.m)
  unfold sumE
  by_cases h2 : l < (sumM m.mach : Nat)
  · rw [szI_neg h2] at C1
    rw [szI_neg (by omega)]
    go_enter Try.func16, Try.ntmps16
    go_wp2_with fail
    refine name_calls ?_; intro v1 hv1
    have X1 : Hid (Chg (0) (0) w v1) := Lib.hid (by rw [hv1]; repeat' (first | with_reducible exact Chg.refl _ _ _ | with_reducible refine Chg.alloc ?_ _ | with_reducible refine Chg.drew ?_ | with_reducible refine Chg.set ?_ (by omega) _))
    have t1 : w.heap.size ≤ v1.heap.size := X1.out.size
    have Ev1 : Hid (Ex w v1) := Lib.hid ((Ex.refl w).chg X1.out (by omega))
    have KX : Hid (Blk v1 (w.heap.size) 61 [.slice a.b m.mach.table.buckets.length a.bc, .slice a.f m.mach.table.frames.length a.fc, .slice a.l m.mach.cache.lines.length a.lc, .int .i64 m.mach.cache.hand, .int .i64 m.mach.tags.count, .int .i64 m.mach.tags.next, .int .i64 m.mach.tags.round, .slice a.o m.mach.tags.owns.length a.oc, .int .i64 m.mach.space, .slice K m.marks.length k, .int .i64 m.hand]) := Lib.hid (by rw [hv1]; repeat' (first | with_reducible exact Blk.new_at _ _ _ (by simp) | with_reducible refine Blk.alloc ?_ _ | with_reducible refine Blk.drew ?_ | with_reducible refine Blk.far ?_ (by simp; omega) _))
    have lX : w.heap.size < v1.heap.size := KX.out.lt
    clear hv1
    refine (C1.out _).mono ?_; rintro r w1 ⟨rfl, hb1⟩
    have Y1 : Hid (Chg 0 0 v1 w1) := Lib.hid (Chg.of_ex hb1)
    have s1 : v1.heap.size ≤ w1.heap.size := Y1.out.size
    have Ew1 : Hid (Ex w w1) := Lib.hid (Ev1.out.chg Y1.out (by omega))
    clear hb1
    replace KX : Hid (Blk w1 (w.heap.size) 61 [.slice a.b m.mach.table.buckets.length a.bc, .slice a.f m.mach.table.frames.length a.fc, .slice a.l m.mach.cache.lines.length a.lc, .int .i64 m.mach.cache.hand, .int .i64 m.mach.tags.count, .int .i64 m.mach.tags.next, .int .i64 m.mach.tags.round, .slice a.o m.mach.tags.owns.length a.oc, .int .i64 m.mach.space, .slice K m.marks.length k, .int .i64 m.hand]) := Lib.hid (KX.out.chg Y1.out (by omega))
    obtain ⟨qX0, qX1, qX2, qX3, qX4, qX5, qX6, qX7, qX8, qX9, qX10⟩ := KX.out.c11
    have jX := KX.out.lt
    go_wp2
    go_ret
    exact ⟨rfl, Ew1.out⟩
  rw [szI_pos h2] at C1
  obtain ⟨l1, hl1⟩ : ∃ l1 : Int, l1 = l - (sumM m.mach : Nat) := ⟨_, rfl⟩
  rw [← hl1] at C1
  have h3 : 0 ≤ l1 := by omega
  have h3' : ¬ l1 < 0 := by omega
  have C2 := Lib.hid (fun w => szBoolS_c K m.marks.length k l1 w h3 (by omega) hm.k)
  by_cases h4 : l1 < (m.marks.length : Nat)
  · rw [szI_neg h4] at C2
    rw [szI_neg (by omega)]
    clear hl1 h2
    go_enter Try.func16, Try.ntmps16
    go_wp2_with fail
    refine name_calls ?_; intro v1 hv1
    have X1 : Hid (Chg (0) (0) w v1) := Lib.hid (by rw [hv1]; repeat' (first | with_reducible exact Chg.refl _ _ _ | with_reducible refine Chg.alloc ?_ _ | with_reducible refine Chg.drew ?_ | with_reducible refine Chg.set ?_ (by omega) _))
    have t1 : w.heap.size ≤ v1.heap.size := X1.out.size
    have Ev1 : Hid (Ex w v1) := Lib.hid ((Ex.refl w).chg X1.out (by omega))
    have KX : Hid (Blk v1 (w.heap.size) 61 [.slice a.b m.mach.table.buckets.length a.bc, .slice a.f m.mach.table.frames.length a.fc, .slice a.l m.mach.cache.lines.length a.lc, .int .i64 m.mach.cache.hand, .int .i64 m.mach.tags.count, .int .i64 m.mach.tags.next, .int .i64 m.mach.tags.round, .slice a.o m.mach.tags.owns.length a.oc, .int .i64 m.mach.space, .slice K m.marks.length k, .int .i64 m.hand]) := Lib.hid (by rw [hv1]; repeat' (first | with_reducible exact Blk.new_at _ _ _ (by simp) | with_reducible refine Blk.alloc ?_ _ | with_reducible refine Blk.drew ?_ | with_reducible refine Blk.far ?_ (by simp; omega) _))
    have lX : w.heap.size < v1.heap.size := KX.out.lt
    clear hv1
    refine (C1.out _).mono ?_; rintro r w1 ⟨rfl, hb1⟩
    have Y1 : Hid (Chg 0 0 v1 w1) := Lib.hid (Chg.of_ex hb1)
    have s1 : v1.heap.size ≤ w1.heap.size := Y1.out.size
    have Ew1 : Hid (Ex w w1) := Lib.hid (Ev1.out.chg Y1.out (by omega))
    clear hb1
    replace KX : Hid (Blk w1 (w.heap.size) 61 [.slice a.b m.mach.table.buckets.length a.bc, .slice a.f m.mach.table.frames.length a.fc, .slice a.l m.mach.cache.lines.length a.lc, .int .i64 m.mach.cache.hand, .int .i64 m.mach.tags.count, .int .i64 m.mach.tags.next, .int .i64 m.mach.tags.round, .slice a.o m.mach.tags.owns.length a.oc, .int .i64 m.mach.space, .slice K m.marks.length k, .int .i64 m.hand]) := Lib.hid (KX.out.chg Y1.out (by omega))
    obtain ⟨qX0, qX1, qX2, qX3, qX4, qX5, qX6, qX7, qX8, qX9, qX10⟩ := KX.out.c11
    have jX := KX.out.lt
    go_wp2_with fail
    refine (C2.out _).mono ?_; rintro r wq2 ⟨rfl, rfl⟩
    go_wp2
    go_ret
    exact ⟨rfl, Ew1.out⟩
  rw [szI_pos h4] at C2
  obtain ⟨l2, hl2⟩ : ∃ l2 : Int, l2 = l1 - (m.marks.length : Nat) := ⟨_, rfl⟩
  rw [← hl2] at C2
  have h5' : ¬ l2 < 0 := by omega
  have HE : Hid (l - ((sumM m.mach + m.marks.length : Nat) : Int) = l2) := Lib.hid (by omega)
  rw [szI_pos (by omega)]
  clear hl1 hl2 h2 h4
  go_enter Try.func16, Try.ntmps16
  go_wp2_with fail
  refine name_calls ?_; intro v1 hv1
  have X1 : Hid (Chg (0) (0) w v1) := Lib.hid (by rw [hv1]; repeat' (first | with_reducible exact Chg.refl _ _ _ | with_reducible refine Chg.alloc ?_ _ | with_reducible refine Chg.drew ?_ | with_reducible refine Chg.set ?_ (by omega) _))
  have t1 : w.heap.size ≤ v1.heap.size := X1.out.size
  have Ev1 : Hid (Ex w v1) := Lib.hid ((Ex.refl w).chg X1.out (by omega))
  have KX : Hid (Blk v1 (w.heap.size) 61 [.slice a.b m.mach.table.buckets.length a.bc, .slice a.f m.mach.table.frames.length a.fc, .slice a.l m.mach.cache.lines.length a.lc, .int .i64 m.mach.cache.hand, .int .i64 m.mach.tags.count, .int .i64 m.mach.tags.next, .int .i64 m.mach.tags.round, .slice a.o m.mach.tags.owns.length a.oc, .int .i64 m.mach.space, .slice K m.marks.length k, .int .i64 m.hand]) := Lib.hid (by rw [hv1]; repeat' (first | with_reducible exact Blk.new_at _ _ _ (by simp) | with_reducible refine Blk.alloc ?_ _ | with_reducible refine Blk.drew ?_ | with_reducible refine Blk.far ?_ (by simp; omega) _))
  have lX : w.heap.size < v1.heap.size := KX.out.lt
  clear hv1
  refine (C1.out _).mono ?_; rintro r w1 ⟨rfl, hb1⟩
  have Y1 : Hid (Chg 0 0 v1 w1) := Lib.hid (Chg.of_ex hb1)
  have s1 : v1.heap.size ≤ w1.heap.size := Y1.out.size
  have Ew1 : Hid (Ex w w1) := Lib.hid (Ev1.out.chg Y1.out (by omega))
  clear hb1
  replace KX : Hid (Blk w1 (w.heap.size) 61 [.slice a.b m.mach.table.buckets.length a.bc, .slice a.f m.mach.table.frames.length a.fc, .slice a.l m.mach.cache.lines.length a.lc, .int .i64 m.mach.cache.hand, .int .i64 m.mach.tags.count, .int .i64 m.mach.tags.next, .int .i64 m.mach.tags.round, .slice a.o m.mach.tags.owns.length a.oc, .int .i64 m.mach.space, .slice K m.marks.length k, .int .i64 m.hand]) := Lib.hid (KX.out.chg Y1.out (by omega))
  obtain ⟨qX0, qX1, qX2, qX3, qX4, qX5, qX6, qX7, qX8, qX9, qX10⟩ := KX.out.c11
  have jX := KX.out.lt
  go_wp2_with fail
  refine (C2.out _).mono ?_; rintro r wq2 ⟨rfl, rfl⟩
  go_wp2
  go_ret
  exact ⟨ret_int HE.out.symm, Ew1.out⟩

set_option maxHeartbeats 2000000 in
theorem toMemory_c (m : MemD) (a : MA) (K : Option Addr) (k : Nat) (w : World) (hx : HasE w m a K) (hf : FewE m) :
    Calls Try.prog 18 #[.agg #[.slice a.b m.mach.table.buckets.length a.bc, .slice a.f m.mach.table.frames.length a.fc, .slice a.l m.mach.cache.lines.length a.lc, .int .i64 m.mach.cache.hand, .int .i64 m.mach.tags.count, .int .i64 m.mach.tags.next, .int .i64 m.mach.tags.round, .slice a.o m.mach.tags.owns.length a.oc, .int .i64 m.mach.space, .slice K m.marks.length k, .int .i64 m.hand]] w
    fun r w' => ∃ a' K' k', r = .returned (.agg #[.slice a'.b m.mach.table.buckets.length a'.bc, .slice a'.f m.mach.table.frames.length a'.fc, .slice a'.l m.mach.cache.lines.length a'.lc, .int .i64 m.mach.cache.hand, .int .i64 m.mach.tags.count, .int .i64 m.mach.tags.next, .int .i64 m.mach.tags.round, .slice a'.o m.mach.tags.owns.length a'.oc, .int .i64 m.mach.space, .slice K' m.marks.length k', .int .i64 m.hand]) ∧ FrE w' w.heap.size m a' K' k' ∧ Ex w w' := by
  have HX := Lib.hid hx
  have HF := Lib.hid hf
  clear hx hf
  go_enter Try.func18, Try.ntmps18
  go_wp2_with fail
  refine name_calls ?_; intro v1 hv1
  have X1 : Hid (Chg (0) (0) w v1) := Lib.hid (by rw [hv1]; repeat' (first | with_reducible exact Chg.refl _ _ _ | with_reducible refine Chg.alloc ?_ _ | with_reducible refine Chg.drew ?_ | with_reducible refine Chg.set ?_ (by omega) _))
  have t1 : w.heap.size ≤ v1.heap.size := X1.out.size
  have Ev1 : Hid (Ex w v1) := Lib.hid ((Ex.refl w).chg X1.out (by omega))
  have KX : Hid (Blk v1 (w.heap.size) 61 [.slice a.b m.mach.table.buckets.length a.bc, .slice a.f m.mach.table.frames.length a.fc, .slice a.l m.mach.cache.lines.length a.lc, .int .i64 m.mach.cache.hand, .int .i64 m.mach.tags.count, .int .i64 m.mach.tags.next, .int .i64 m.mach.tags.round, .slice a.o m.mach.tags.owns.length a.oc, .int .i64 m.mach.space, .slice K m.marks.length k, .int .i64 m.hand]) := Lib.hid (by rw [hv1]; repeat' (first | with_reducible exact Blk.new_at _ _ _ (by simp) | with_reducible refine Blk.alloc ?_ _ | with_reducible refine Blk.drew ?_ | with_reducible refine Blk.far ?_ (by simp; omega) _))
  have lX : w.heap.size < v1.heap.size := KX.out.lt
  have KR : Hid (Blk v1 (w.heap.size + 1) 65 [.slice none 0 0, .slice none 0 0, .slice none 0 0, .int .i64 0, .int .i64 0, .int .i64 0, .int .i64 0, .slice none 0 0, .int .i64 0, .slice none 0 0, .int .i64 0]) := Lib.hid (by rw [hv1]; exact (Blk.new_at _ _ _ (by simp)).alloc _)
  have lR : w.heap.size + 1 < v1.heap.size := KR.out.lt
  have KO : Hid (Blk v1 (w.heap.size + 1 + 1) 65 [.slice none 0 0, .slice none 0 0, .slice none 0 0, .int .i64 0, .int .i64 0, .int .i64 0, .int .i64 0, .slice none 0 0, .int .i64 0, .slice none 0 0, .int .i64 0]) := Lib.hid (by rw [hv1]; exact Blk.new_at _ _ _ (by simp))
  have lO : w.heap.size + 1 + 1 < v1.heap.size := KO.out.lt
  have DX := Lib.hid (HX.out.ex Ev1.out)
  clear hv1
  refine (toMachine_c m.mach a _ DX.out.m HF.out.m).mono ?_; rintro r w1 ⟨a1, rfl, hhm1, hb1⟩
  have Y1 : Hid (Chg 0 0 v1 w1) := Lib.hid (Chg.of_ex hb1)
  have s1 : v1.heap.size ≤ w1.heap.size := Y1.out.size
  have Ew1 : Hid (Ex w w1) := Lib.hid (Ev1.out.chg Y1.out (by omega))
  clear hb1
  replace KX : Hid (Blk w1 (w.heap.size) 61 [.slice a.b m.mach.table.buckets.length a.bc, .slice a.f m.mach.table.frames.length a.fc, .slice a.l m.mach.cache.lines.length a.lc, .int .i64 m.mach.cache.hand, .int .i64 m.mach.tags.count, .int .i64 m.mach.tags.next, .int .i64 m.mach.tags.round, .slice a.o m.mach.tags.owns.length a.oc, .int .i64 m.mach.space, .slice K m.marks.length k, .int .i64 m.hand]) := Lib.hid (KX.out.chg Y1.out (by omega))
  replace KR : Hid (Blk w1 (w.heap.size + 1) 65 [.slice none 0 0, .slice none 0 0, .slice none 0 0, .int .i64 0, .int .i64 0, .int .i64 0, .int .i64 0, .slice none 0 0, .int .i64 0, .slice none 0 0, .int .i64 0]) := Lib.hid (KR.out.chg Y1.out (by omega))
  replace KO : Hid (Blk w1 (w.heap.size + 1 + 1) 65 [.slice none 0 0, .slice none 0 0, .slice none 0 0, .int .i64 0, .int .i64 0, .int .i64 0, .int .i64 0, .slice none 0 0, .int .i64 0, .slice none 0 0, .int .i64 0]) := Lib.hid (KO.out.chg Y1.out (by omega))
  replace DX := Lib.hid (HX.out.ex Ew1.out)
  have HHM1 := Lib.hid hhm1; clear hhm1
  obtain ⟨qX0, qX1, qX2, qX3, qX4, qX5, qX6, qX7, qX8, qX9, qX10⟩ := KX.out.c11
  have jX := KX.out.lt
  obtain ⟨qR0, qR1, qR2, qR3, qR4, qR5, qR6, qR7, qR8, qR9, qR10⟩ := KR.out.c11
  have jR := KR.out.lt
  have zR := KR.out.frozen
  obtain ⟨qO0, qO1, qO2, qO3, qO4, qO5, qO6, qO7, qO8, qO9, qO10⟩ := KO.out.c11
  have jO := KO.out.lt
  have zO := KO.out.frozen
  go_wp2_with fail
  refine name_calls ?_; intro v2 hv2
  have X2 : Hid (Chg (w.heap.size + 1 + 1) (w.heap.size + 1 + 1 + 1) w1 v2) := Lib.hid (by rw [hv2]; repeat' (first | with_reducible exact Chg.refl _ _ _ | with_reducible refine Chg.alloc ?_ _ | with_reducible refine Chg.drew ?_ | with_reducible refine Chg.set ?_ (by omega) _))
  have t2 : w1.heap.size ≤ v2.heap.size := X2.out.size
  have Ev2 : Hid (Ex w v2) := Lib.hid (Ew1.out.chg X2.out (by omega))
  clear qX0 qX1 qX2 qX3 qX4 qX5 qX6 qX7 qX8 qX9 qX10 jX
  clear qR0 qR1 qR2 qR3 qR4 qR5 qR6 qR7 qR8 qR9 qR10 jR zR
  clear qO0 qO1 qO2 qO3 qO4 qO5 qO6 qO7 qO8 qO9 qO10 jO zO
  replace KO : Hid (Blk v2 (w.heap.size + 1 + 1) 65 [.slice a1.b m.mach.table.buckets.length a1.bc, .slice a1.f m.mach.table.frames.length a1.fc, .slice a1.l m.mach.cache.lines.length a1.lc, .int .i64 m.mach.cache.hand, .int .i64 m.mach.tags.count, .int .i64 m.mach.tags.next, .int .i64 m.mach.tags.round, .slice a1.o m.mach.tags.owns.length a1.oc, .int .i64 m.mach.space, .slice none 0 0, .int .i64 0]) := Lib.hid (by rw [hv2]; exact ((((((((KO.out.set 0 _).set 1 _).set 2 _).set 3 _).set 4 _).set 5 _).set 6 _).set 7 _).set 8 _)
  replace KX : Hid (Blk v2 (w.heap.size) 61 [.slice a.b m.mach.table.buckets.length a.bc, .slice a.f m.mach.table.frames.length a.fc, .slice a.l m.mach.cache.lines.length a.lc, .int .i64 m.mach.cache.hand, .int .i64 m.mach.tags.count, .int .i64 m.mach.tags.next, .int .i64 m.mach.tags.round, .slice a.o m.mach.tags.owns.length a.oc, .int .i64 m.mach.space, .slice K m.marks.length k, .int .i64 m.hand]) := Lib.hid (KX.out.chg X2.out (by omega))
  replace KR : Hid (Blk v2 (w.heap.size + 1) 65 [.slice none 0 0, .slice none 0 0, .slice none 0 0, .int .i64 0, .int .i64 0, .int .i64 0, .int .i64 0, .slice none 0 0, .int .i64 0, .slice none 0 0, .int .i64 0]) := Lib.hid (KR.out.chg X2.out (by omega))
  replace DX := Lib.hid (HX.out.ex Ev2.out)
  clear hv2
  refine (toBoolS_c K k m.marks _ DX.out.k HF.out.k).mono ?_; rintro r w2 ⟨A2, c2, rfl, hf2, hb2⟩
  have Y2 : Hid (Chg 0 0 v2 w2) := Lib.hid (Chg.of_ex hb2)
  have s2 : v2.heap.size ≤ w2.heap.size := Y2.out.size
  have Ew2 : Hid (Ex w w2) := Lib.hid (Ev2.out.chg Y2.out (by omega))
  clear hb2
  replace KX : Hid (Blk w2 (w.heap.size) 61 [.slice a.b m.mach.table.buckets.length a.bc, .slice a.f m.mach.table.frames.length a.fc, .slice a.l m.mach.cache.lines.length a.lc, .int .i64 m.mach.cache.hand, .int .i64 m.mach.tags.count, .int .i64 m.mach.tags.next, .int .i64 m.mach.tags.round, .slice a.o m.mach.tags.owns.length a.oc, .int .i64 m.mach.space, .slice K m.marks.length k, .int .i64 m.hand]) := Lib.hid (KX.out.chg Y2.out (by omega))
  replace KR : Hid (Blk w2 (w.heap.size + 1) 65 [.slice none 0 0, .slice none 0 0, .slice none 0 0, .int .i64 0, .int .i64 0, .int .i64 0, .int .i64 0, .slice none 0 0, .int .i64 0, .slice none 0 0, .int .i64 0]) := Lib.hid (KR.out.chg Y2.out (by omega))
  replace KO : Hid (Blk w2 (w.heap.size + 1 + 1) 65 [.slice a1.b m.mach.table.buckets.length a1.bc, .slice a1.f m.mach.table.frames.length a1.fc, .slice a1.l m.mach.cache.lines.length a1.lc, .int .i64 m.mach.cache.hand, .int .i64 m.mach.tags.count, .int .i64 m.mach.tags.next, .int .i64 m.mach.tags.round, .slice a1.o m.mach.tags.owns.length a1.oc, .int .i64 m.mach.space, .slice none 0 0, .int .i64 0]) := Lib.hid (KO.out.chg Y2.out (by omega))
  replace DX := Lib.hid (HX.out.ex Ew2.out)
  have HF2 := Lib.hid hf2; clear hf2
  have WHF2 := Lib.hid HF2.out.row
  obtain ⟨qX0, qX1, qX2, qX3, qX4, qX5, qX6, qX7, qX8, qX9, qX10⟩ := KX.out.c11
  have jX := KX.out.lt
  obtain ⟨qR0, qR1, qR2, qR3, qR4, qR5, qR6, qR7, qR8, qR9, qR10⟩ := KR.out.c11
  have jR := KR.out.lt
  have zR := KR.out.frozen
  obtain ⟨qO0, qO1, qO2, qO3, qO4, qO5, qO6, qO7, qO8, qO9, qO10⟩ := KO.out.c11
  have jO := KO.out.lt
  have zO := KO.out.frozen
  have HM2 : Hid (FrM w2 v1.heap.size m.mach a1) := Lib.hid ((HHM1.out.chg X2.out (by omega)).ex Y2.out.ex_)
  go_wp2
  exact bodyPost_ret (v := .agg #[.slice a1.b m.mach.table.buckets.length a1.bc, .slice a1.f m.mach.table.frames.length a1.fc, .slice a1.l m.mach.cache.lines.length a1.lc, .int .i64 m.mach.cache.hand, .int .i64 m.mach.tags.count, .int .i64 m.mach.tags.next, .int .i64 m.mach.tags.round, .slice a1.o m.mach.tags.owns.length a1.oc, .int .i64 m.mach.space, .slice A2 m.marks.length c2, .int .i64 m.hand]) (by first | (simp [results, Try.results18, go_sem, qR0, qR1]; done) | (simp [results, Try.results18, go_sem, qR0, qR1, qR2, qR3, qR4, qR5, qR6, qR7, qR8, qR9, qR10]; done)) rfl
    ⟨a1, A2, c2, rfl, ⟨FrM.mono (B := v1.heap.size) (by repeat' (first | with_reducible exact HM2.out | with_reducible refine FrM.put ?_ (by omega) _)) (by omega), Fr.mono (B := v2.heap.size) (by repeat' (first | with_reducible exact HF2.out | with_reducible refine Fr.alloc ?_ _ | with_reducible refine Fr.put ?_ (fun b hb => by have := WHF2.out b hb; omega) _)) (by omega)⟩, (by repeat' (first | with_reducible exact Ew2.out | with_reducible refine Ex.alloc ?_ _ | with_reducible refine Ex.drew ?_ | with_reducible refine Ex.put ?_ (by omega) _))⟩

set_option maxHeartbeats 1000000 in
theorem eqMemory_self_c (m : MemD) (a b : MA) (K L : Option Addr) (k l : Nat) (w : World) (hx : HasE w m a K) (hy : HasE w m b L) (hf : FewE m) :
    Calls Try.prog 20 #[.agg #[.slice a.b m.mach.table.buckets.length a.bc, .slice a.f m.mach.table.frames.length a.fc, .slice a.l m.mach.cache.lines.length a.lc, .int .i64 m.mach.cache.hand, .int .i64 m.mach.tags.count, .int .i64 m.mach.tags.next, .int .i64 m.mach.tags.round, .slice a.o m.mach.tags.owns.length a.oc, .int .i64 m.mach.space, .slice K m.marks.length k, .int .i64 m.hand], .agg #[.slice b.b m.mach.table.buckets.length b.bc, .slice b.f m.mach.table.frames.length b.fc, .slice b.l m.mach.cache.lines.length b.lc, .int .i64 m.mach.cache.hand, .int .i64 m.mach.tags.count, .int .i64 m.mach.tags.next, .int .i64 m.mach.tags.round, .slice b.o m.mach.tags.owns.length b.oc, .int .i64 m.mach.space, .slice L m.marks.length l, .int .i64 m.hand]] w fun r w' => r = .returned (.bool true) ∧ Ex w w' := by
  have HX := Lib.hid hx
  have HY := Lib.hid hy
  have HF := Lib.hid hf
  have hsp : (m.hand != m.hand) = false := by simp
  clear hx hy hf
  go_enter Try.func20, Try.ntmps20
  go_wp2_with fail
  refine name_calls ?_; intro v1 hv1
  have X1 : Hid (Chg (0) (0) w v1) := Lib.hid (by rw [hv1]; repeat' (first | with_reducible exact Chg.refl _ _ _ | with_reducible refine Chg.alloc ?_ _ | with_reducible refine Chg.drew ?_ | with_reducible refine Chg.set ?_ (by omega) _))
  have t1 : w.heap.size ≤ v1.heap.size := X1.out.size
  have Ev1 : Hid (Ex w v1) := Lib.hid ((Ex.refl w).chg X1.out (by omega))
  have KX : Hid (Blk v1 (w.heap.size) 65 [.slice a.b m.mach.table.buckets.length a.bc, .slice a.f m.mach.table.frames.length a.fc, .slice a.l m.mach.cache.lines.length a.lc, .int .i64 m.mach.cache.hand, .int .i64 m.mach.tags.count, .int .i64 m.mach.tags.next, .int .i64 m.mach.tags.round, .slice a.o m.mach.tags.owns.length a.oc, .int .i64 m.mach.space, .slice K m.marks.length k, .int .i64 m.hand]) := Lib.hid (by rw [hv1]; repeat' (first | with_reducible exact Blk.new_at _ _ _ (by simp) | with_reducible refine Blk.alloc ?_ _ | with_reducible refine Blk.drew ?_ | with_reducible refine Blk.far ?_ (by simp; omega) _))
  have lX : w.heap.size < v1.heap.size := KX.out.lt
  have KY : Hid (Blk v1 (w.heap.size + 1) 65 [.slice b.b m.mach.table.buckets.length b.bc, .slice b.f m.mach.table.frames.length b.fc, .slice b.l m.mach.cache.lines.length b.lc, .int .i64 m.mach.cache.hand, .int .i64 m.mach.tags.count, .int .i64 m.mach.tags.next, .int .i64 m.mach.tags.round, .slice b.o m.mach.tags.owns.length b.oc, .int .i64 m.mach.space, .slice L m.marks.length l, .int .i64 m.hand]) := Lib.hid (by rw [hv1]; repeat' (first | with_reducible exact Blk.new_at _ _ _ (by simp) | with_reducible refine Blk.alloc ?_ _ | with_reducible refine Blk.drew ?_ | with_reducible refine Blk.far ?_ (by simp; omega) _))
  have lY : w.heap.size + 1 < v1.heap.size := KY.out.lt
  have DX := Lib.hid (HX.out.ex Ev1.out)
  have DY := Lib.hid (HY.out.ex Ev1.out)
  clear hv1
  refine (eqMachine_self_c m.mach a b _ DX.out.m DY.out.m HF.out.m).mono ?_; rintro r w1 ⟨rfl, hb1⟩
  have Y1 : Hid (Chg 0 0 v1 w1) := Lib.hid (Chg.of_ex hb1)
  have s1 : v1.heap.size ≤ w1.heap.size := Y1.out.size
  have Ew1 : Hid (Ex w w1) := Lib.hid (Ev1.out.chg Y1.out (by omega))
  clear hb1
  replace KX : Hid (Blk w1 (w.heap.size) 65 [.slice a.b m.mach.table.buckets.length a.bc, .slice a.f m.mach.table.frames.length a.fc, .slice a.l m.mach.cache.lines.length a.lc, .int .i64 m.mach.cache.hand, .int .i64 m.mach.tags.count, .int .i64 m.mach.tags.next, .int .i64 m.mach.tags.round, .slice a.o m.mach.tags.owns.length a.oc, .int .i64 m.mach.space, .slice K m.marks.length k, .int .i64 m.hand]) := Lib.hid (KX.out.chg Y1.out (by omega))
  replace KY : Hid (Blk w1 (w.heap.size + 1) 65 [.slice b.b m.mach.table.buckets.length b.bc, .slice b.f m.mach.table.frames.length b.fc, .slice b.l m.mach.cache.lines.length b.lc, .int .i64 m.mach.cache.hand, .int .i64 m.mach.tags.count, .int .i64 m.mach.tags.next, .int .i64 m.mach.tags.round, .slice b.o m.mach.tags.owns.length b.oc, .int .i64 m.mach.space, .slice L m.marks.length l, .int .i64 m.hand]) := Lib.hid (KY.out.chg Y1.out (by omega))
  replace DX := Lib.hid (HX.out.ex Ew1.out)
  replace DY := Lib.hid (HY.out.ex Ew1.out)
  obtain ⟨qX0, qX1, qX2, qX3, qX4, qX5, qX6, qX7, qX8, qX9, qX10⟩ := KX.out.c11
  have jX := KX.out.lt
  obtain ⟨qY0, qY1, qY2, qY3, qY4, qY5, qY6, qY7, qY8, qY9, qY10⟩ := KY.out.c11
  have jY := KY.out.lt
  go_wp2_with fail
  refine name_calls ?_; intro v2 hv2
  have X2 : Hid (Chg (0) (0) w1 v2) := Lib.hid (by rw [hv2]; repeat' (first | with_reducible exact Chg.refl _ _ _ | with_reducible refine Chg.alloc ?_ _ | with_reducible refine Chg.drew ?_ | with_reducible refine Chg.set ?_ (by omega) _))
  have t2 : w1.heap.size ≤ v2.heap.size := X2.out.size
  have Ev2 : Hid (Ex w v2) := Lib.hid (Ew1.out.chg X2.out (by omega))
  clear qX0 qX1 qX2 qX3 qX4 qX5 qX6 qX7 qX8 qX9 qX10 jX
  clear qY0 qY1 qY2 qY3 qY4 qY5 qY6 qY7 qY8 qY9 qY10 jY
  replace KX : Hid (Blk v2 (w.heap.size) 65 [.slice a.b m.mach.table.buckets.length a.bc, .slice a.f m.mach.table.frames.length a.fc, .slice a.l m.mach.cache.lines.length a.lc, .int .i64 m.mach.cache.hand, .int .i64 m.mach.tags.count, .int .i64 m.mach.tags.next, .int .i64 m.mach.tags.round, .slice a.o m.mach.tags.owns.length a.oc, .int .i64 m.mach.space, .slice K m.marks.length k, .int .i64 m.hand]) := Lib.hid (KX.out.chg X2.out (by omega))
  replace KY : Hid (Blk v2 (w.heap.size + 1) 65 [.slice b.b m.mach.table.buckets.length b.bc, .slice b.f m.mach.table.frames.length b.fc, .slice b.l m.mach.cache.lines.length b.lc, .int .i64 m.mach.cache.hand, .int .i64 m.mach.tags.count, .int .i64 m.mach.tags.next, .int .i64 m.mach.tags.round, .slice b.o m.mach.tags.owns.length b.oc, .int .i64 m.mach.space, .slice L m.marks.length l, .int .i64 m.hand]) := Lib.hid (KY.out.chg X2.out (by omega))
  replace DX := Lib.hid (HX.out.ex Ev2.out)
  replace DY := Lib.hid (HY.out.ex Ev2.out)
  clear hv2
  refine (eqBoolS_self_c K L k l m.marks _ DX.out.k DY.out.k HF.out.k).mono ?_; rintro r w2 ⟨rfl, hb2⟩
  have Y2 : Hid (Chg 0 0 v2 w2) := Lib.hid (Chg.of_ex hb2)
  have s2 : v2.heap.size ≤ w2.heap.size := Y2.out.size
  have Ew2 : Hid (Ex w w2) := Lib.hid (Ev2.out.chg Y2.out (by omega))
  clear hb2
  replace KX : Hid (Blk w2 (w.heap.size) 65 [.slice a.b m.mach.table.buckets.length a.bc, .slice a.f m.mach.table.frames.length a.fc, .slice a.l m.mach.cache.lines.length a.lc, .int .i64 m.mach.cache.hand, .int .i64 m.mach.tags.count, .int .i64 m.mach.tags.next, .int .i64 m.mach.tags.round, .slice a.o m.mach.tags.owns.length a.oc, .int .i64 m.mach.space, .slice K m.marks.length k, .int .i64 m.hand]) := Lib.hid (KX.out.chg Y2.out (by omega))
  replace KY : Hid (Blk w2 (w.heap.size + 1) 65 [.slice b.b m.mach.table.buckets.length b.bc, .slice b.f m.mach.table.frames.length b.fc, .slice b.l m.mach.cache.lines.length b.lc, .int .i64 m.mach.cache.hand, .int .i64 m.mach.tags.count, .int .i64 m.mach.tags.next, .int .i64 m.mach.tags.round, .slice b.o m.mach.tags.owns.length b.oc, .int .i64 m.mach.space, .slice L m.marks.length l, .int .i64 m.hand]) := Lib.hid (KY.out.chg Y2.out (by omega))
  replace DX := Lib.hid (HX.out.ex Ew2.out)
  replace DY := Lib.hid (HY.out.ex Ew2.out)
  obtain ⟨qX0, qX1, qX2, qX3, qX4, qX5, qX6, qX7, qX8, qX9, qX10⟩ := KX.out.c11
  have jX := KX.out.lt
  obtain ⟨qY0, qY1, qY2, qY3, qY4, qY5, qY6, qY7, qY8, qY9, qY10⟩ := KY.out.c11
  have jY := KY.out.lt
  go_wp2
  go_ret
  exact ⟨rfl, Ew2.out⟩

set_option maxHeartbeats 1000000 in
theorem memSameI_c (x y : MemD) (a b : MA) (K L : Option Addr) (k l : Nat) (w : World) (hx : HasE w x a K) (hy : HasE w y b L) (hf : FewE x) (hg : FewE y) :
    Calls Try.prog 19 #[.agg #[.slice a.b x.mach.table.buckets.length a.bc, .slice a.f x.mach.table.frames.length a.fc, .slice a.l x.mach.cache.lines.length a.lc, .int .i64 x.mach.cache.hand, .int .i64 x.mach.tags.count, .int .i64 x.mach.tags.next, .int .i64 x.mach.tags.round, .slice a.o x.mach.tags.owns.length a.oc, .int .i64 x.mach.space, .slice K x.marks.length k, .int .i64 x.hand], .agg #[.slice b.b y.mach.table.buckets.length b.bc, .slice b.f y.mach.table.frames.length b.fc, .slice b.l y.mach.cache.lines.length b.lc, .int .i64 y.mach.cache.hand, .int .i64 y.mach.tags.count, .int .i64 y.mach.tags.next, .int .i64 y.mach.tags.round, .slice b.o y.mach.tags.owns.length b.oc, .int .i64 y.mach.space, .slice L y.marks.length l, .int .i64 y.hand]] w fun r w' => r = .returned (.bool (eqB x y)) ∧ Ex w w' := by
  have C1 := Lib.hid (fun w (h1 : HasE w x a K) (h2 : HasE w y b L) => machSameI_c x.mach y.mach a b w h1.m h2.m hf.m hg.m)
  have C2 := Lib.hid (fun w (h1 : HasE w x a K) (h2 : HasE w y b L) => equalBool_c K L k l x.marks y.marks w h1.k h2.k hf.k hg.k)
  have HX := Lib.hid hx
  have HY := Lib.hid hy
  have HE := Lib.hid (mem_eq x y)
  clear hx hy hf hg
  cases h1 : eqB x.mach y.mach
  · rw [h1] at C1
    have e : eqB x y = false := by rw [eqB_false, Ne, HE.out]; intro h; exact eqB_false.1 h1 h.1
    rw [e]
    clear e h1
    go_enter Try.func19, Try.ntmps19
    go_wp2_with fail
    refine name_calls ?_; intro v1 hv1
    have X1 : Hid (Chg (0) (0) w v1) := Lib.hid (by rw [hv1]; repeat' (first | with_reducible exact Chg.refl _ _ _ | with_reducible refine Chg.alloc ?_ _ | with_reducible refine Chg.drew ?_ | with_reducible refine Chg.set ?_ (by omega) _))
    have t1 : w.heap.size ≤ v1.heap.size := X1.out.size
    have Ev1 : Hid (Ex w v1) := Lib.hid ((Ex.refl w).chg X1.out (by omega))
    have KX : Hid (Blk v1 (w.heap.size) 65 [.slice a.b x.mach.table.buckets.length a.bc, .slice a.f x.mach.table.frames.length a.fc, .slice a.l x.mach.cache.lines.length a.lc, .int .i64 x.mach.cache.hand, .int .i64 x.mach.tags.count, .int .i64 x.mach.tags.next, .int .i64 x.mach.tags.round, .slice a.o x.mach.tags.owns.length a.oc, .int .i64 x.mach.space, .slice K x.marks.length k, .int .i64 x.hand]) := Lib.hid (by rw [hv1]; repeat' (first | with_reducible exact Blk.new_at _ _ _ (by simp) | with_reducible refine Blk.alloc ?_ _ | with_reducible refine Blk.drew ?_ | with_reducible refine Blk.far ?_ (by simp; omega) _))
    have lX : w.heap.size < v1.heap.size := KX.out.lt
    have KY : Hid (Blk v1 (w.heap.size + 1) 65 [.slice b.b y.mach.table.buckets.length b.bc, .slice b.f y.mach.table.frames.length b.fc, .slice b.l y.mach.cache.lines.length b.lc, .int .i64 y.mach.cache.hand, .int .i64 y.mach.tags.count, .int .i64 y.mach.tags.next, .int .i64 y.mach.tags.round, .slice b.o y.mach.tags.owns.length b.oc, .int .i64 y.mach.space, .slice L y.marks.length l, .int .i64 y.hand]) := Lib.hid (by rw [hv1]; repeat' (first | with_reducible exact Blk.new_at _ _ _ (by simp) | with_reducible refine Blk.alloc ?_ _ | with_reducible refine Blk.drew ?_ | with_reducible refine Blk.far ?_ (by simp; omega) _))
    have lY : w.heap.size + 1 < v1.heap.size := KY.out.lt
    have DX := Lib.hid (HX.out.ex Ev1.out)
    have DY := Lib.hid (HY.out.ex Ev1.out)
    clear hv1
    refine (C1.out _ DX.out DY.out).mono ?_; rintro r w1 ⟨rfl, hb1⟩
    have Y1 : Hid (Chg 0 0 v1 w1) := Lib.hid (Chg.of_ex hb1)
    have s1 : v1.heap.size ≤ w1.heap.size := Y1.out.size
    have Ew1 : Hid (Ex w w1) := Lib.hid (Ev1.out.chg Y1.out (by omega))
    clear hb1
    replace KX : Hid (Blk w1 (w.heap.size) 65 [.slice a.b x.mach.table.buckets.length a.bc, .slice a.f x.mach.table.frames.length a.fc, .slice a.l x.mach.cache.lines.length a.lc, .int .i64 x.mach.cache.hand, .int .i64 x.mach.tags.count, .int .i64 x.mach.tags.next, .int .i64 x.mach.tags.round, .slice a.o x.mach.tags.owns.length a.oc, .int .i64 x.mach.space, .slice K x.marks.length k, .int .i64 x.hand]) := Lib.hid (KX.out.chg Y1.out (by omega))
    replace KY : Hid (Blk w1 (w.heap.size + 1) 65 [.slice b.b y.mach.table.buckets.length b.bc, .slice b.f y.mach.table.frames.length b.fc, .slice b.l y.mach.cache.lines.length b.lc, .int .i64 y.mach.cache.hand, .int .i64 y.mach.tags.count, .int .i64 y.mach.tags.next, .int .i64 y.mach.tags.round, .slice b.o y.mach.tags.owns.length b.oc, .int .i64 y.mach.space, .slice L y.marks.length l, .int .i64 y.hand]) := Lib.hid (KY.out.chg Y1.out (by omega))
    replace DX := Lib.hid (HX.out.ex Ew1.out)
    replace DY := Lib.hid (HY.out.ex Ew1.out)
    obtain ⟨qX0, qX1, qX2, qX3, qX4, qX5, qX6, qX7, qX8, qX9, qX10⟩ := KX.out.c11
    have jX := KX.out.lt
    obtain ⟨qY0, qY1, qY2, qY3, qY4, qY5, qY6, qY7, qY8, qY9, qY10⟩ := KY.out.c11
    have jY := KY.out.lt
    go_wp2
    go_ret
    exact ⟨rfl, Ew1.out⟩
  rw [h1] at C1
  cases h2 : eqB x.marks y.marks
  · rw [h2] at C2
    have e : eqB x y = false := by rw [eqB_false, Ne, HE.out]; intro h; exact eqB_false.1 h2 h.2.1
    rw [e]
    clear e h1 h2
    go_enter Try.func19, Try.ntmps19
    go_wp2_with fail
    refine name_calls ?_; intro v1 hv1
    have X1 : Hid (Chg (0) (0) w v1) := Lib.hid (by rw [hv1]; repeat' (first | with_reducible exact Chg.refl _ _ _ | with_reducible refine Chg.alloc ?_ _ | with_reducible refine Chg.drew ?_ | with_reducible refine Chg.set ?_ (by omega) _))
    have t1 : w.heap.size ≤ v1.heap.size := X1.out.size
    have Ev1 : Hid (Ex w v1) := Lib.hid ((Ex.refl w).chg X1.out (by omega))
    have KX : Hid (Blk v1 (w.heap.size) 65 [.slice a.b x.mach.table.buckets.length a.bc, .slice a.f x.mach.table.frames.length a.fc, .slice a.l x.mach.cache.lines.length a.lc, .int .i64 x.mach.cache.hand, .int .i64 x.mach.tags.count, .int .i64 x.mach.tags.next, .int .i64 x.mach.tags.round, .slice a.o x.mach.tags.owns.length a.oc, .int .i64 x.mach.space, .slice K x.marks.length k, .int .i64 x.hand]) := Lib.hid (by rw [hv1]; repeat' (first | with_reducible exact Blk.new_at _ _ _ (by simp) | with_reducible refine Blk.alloc ?_ _ | with_reducible refine Blk.drew ?_ | with_reducible refine Blk.far ?_ (by simp; omega) _))
    have lX : w.heap.size < v1.heap.size := KX.out.lt
    have KY : Hid (Blk v1 (w.heap.size + 1) 65 [.slice b.b y.mach.table.buckets.length b.bc, .slice b.f y.mach.table.frames.length b.fc, .slice b.l y.mach.cache.lines.length b.lc, .int .i64 y.mach.cache.hand, .int .i64 y.mach.tags.count, .int .i64 y.mach.tags.next, .int .i64 y.mach.tags.round, .slice b.o y.mach.tags.owns.length b.oc, .int .i64 y.mach.space, .slice L y.marks.length l, .int .i64 y.hand]) := Lib.hid (by rw [hv1]; repeat' (first | with_reducible exact Blk.new_at _ _ _ (by simp) | with_reducible refine Blk.alloc ?_ _ | with_reducible refine Blk.drew ?_ | with_reducible refine Blk.far ?_ (by simp; omega) _))
    have lY : w.heap.size + 1 < v1.heap.size := KY.out.lt
    have DX := Lib.hid (HX.out.ex Ev1.out)
    have DY := Lib.hid (HY.out.ex Ev1.out)
    clear hv1
    refine (C1.out _ DX.out DY.out).mono ?_; rintro r w1 ⟨rfl, hb1⟩
    have Y1 : Hid (Chg 0 0 v1 w1) := Lib.hid (Chg.of_ex hb1)
    have s1 : v1.heap.size ≤ w1.heap.size := Y1.out.size
    have Ew1 : Hid (Ex w w1) := Lib.hid (Ev1.out.chg Y1.out (by omega))
    clear hb1
    replace KX : Hid (Blk w1 (w.heap.size) 65 [.slice a.b x.mach.table.buckets.length a.bc, .slice a.f x.mach.table.frames.length a.fc, .slice a.l x.mach.cache.lines.length a.lc, .int .i64 x.mach.cache.hand, .int .i64 x.mach.tags.count, .int .i64 x.mach.tags.next, .int .i64 x.mach.tags.round, .slice a.o x.mach.tags.owns.length a.oc, .int .i64 x.mach.space, .slice K x.marks.length k, .int .i64 x.hand]) := Lib.hid (KX.out.chg Y1.out (by omega))
    replace KY : Hid (Blk w1 (w.heap.size + 1) 65 [.slice b.b y.mach.table.buckets.length b.bc, .slice b.f y.mach.table.frames.length b.fc, .slice b.l y.mach.cache.lines.length b.lc, .int .i64 y.mach.cache.hand, .int .i64 y.mach.tags.count, .int .i64 y.mach.tags.next, .int .i64 y.mach.tags.round, .slice b.o y.mach.tags.owns.length b.oc, .int .i64 y.mach.space, .slice L y.marks.length l, .int .i64 y.hand]) := Lib.hid (KY.out.chg Y1.out (by omega))
    replace DX := Lib.hid (HX.out.ex Ew1.out)
    replace DY := Lib.hid (HY.out.ex Ew1.out)
    obtain ⟨qX0, qX1, qX2, qX3, qX4, qX5, qX6, qX7, qX8, qX9, qX10⟩ := KX.out.c11
    have jX := KX.out.lt
    obtain ⟨qY0, qY1, qY2, qY3, qY4, qY5, qY6, qY7, qY8, qY9, qY10⟩ := KY.out.c11
    have jY := KY.out.lt
    go_wp2_with fail
    refine name_calls ?_; intro v2 hv2
    have X2 : Hid (Chg (0) (0) w1 v2) := Lib.hid (by rw [hv2]; repeat' (first | with_reducible exact Chg.refl _ _ _ | with_reducible refine Chg.alloc ?_ _ | with_reducible refine Chg.drew ?_ | with_reducible refine Chg.set ?_ (by omega) _))
    have t2 : w1.heap.size ≤ v2.heap.size := X2.out.size
    have Ev2 : Hid (Ex w v2) := Lib.hid (Ew1.out.chg X2.out (by omega))
    clear qX0 qX1 qX2 qX3 qX4 qX5 qX6 qX7 qX8 qX9 qX10 jX
    clear qY0 qY1 qY2 qY3 qY4 qY5 qY6 qY7 qY8 qY9 qY10 jY
    replace KX : Hid (Blk v2 (w.heap.size) 65 [.slice a.b x.mach.table.buckets.length a.bc, .slice a.f x.mach.table.frames.length a.fc, .slice a.l x.mach.cache.lines.length a.lc, .int .i64 x.mach.cache.hand, .int .i64 x.mach.tags.count, .int .i64 x.mach.tags.next, .int .i64 x.mach.tags.round, .slice a.o x.mach.tags.owns.length a.oc, .int .i64 x.mach.space, .slice K x.marks.length k, .int .i64 x.hand]) := Lib.hid (KX.out.chg X2.out (by omega))
    replace KY : Hid (Blk v2 (w.heap.size + 1) 65 [.slice b.b y.mach.table.buckets.length b.bc, .slice b.f y.mach.table.frames.length b.fc, .slice b.l y.mach.cache.lines.length b.lc, .int .i64 y.mach.cache.hand, .int .i64 y.mach.tags.count, .int .i64 y.mach.tags.next, .int .i64 y.mach.tags.round, .slice b.o y.mach.tags.owns.length b.oc, .int .i64 y.mach.space, .slice L y.marks.length l, .int .i64 y.hand]) := Lib.hid (KY.out.chg X2.out (by omega))
    replace DX := Lib.hid (HX.out.ex Ev2.out)
    replace DY := Lib.hid (HY.out.ex Ev2.out)
    clear hv2
    refine (C2.out _ DX.out DY.out).mono ?_; rintro r w2 ⟨rfl, hb2⟩
    have Y2 : Hid (Chg 0 0 v2 w2) := Lib.hid (Chg.of_ex hb2)
    have s2 : v2.heap.size ≤ w2.heap.size := Y2.out.size
    have Ew2 : Hid (Ex w w2) := Lib.hid (Ev2.out.chg Y2.out (by omega))
    clear hb2
    replace KX : Hid (Blk w2 (w.heap.size) 65 [.slice a.b x.mach.table.buckets.length a.bc, .slice a.f x.mach.table.frames.length a.fc, .slice a.l x.mach.cache.lines.length a.lc, .int .i64 x.mach.cache.hand, .int .i64 x.mach.tags.count, .int .i64 x.mach.tags.next, .int .i64 x.mach.tags.round, .slice a.o x.mach.tags.owns.length a.oc, .int .i64 x.mach.space, .slice K x.marks.length k, .int .i64 x.hand]) := Lib.hid (KX.out.chg Y2.out (by omega))
    replace KY : Hid (Blk w2 (w.heap.size + 1) 65 [.slice b.b y.mach.table.buckets.length b.bc, .slice b.f y.mach.table.frames.length b.fc, .slice b.l y.mach.cache.lines.length b.lc, .int .i64 y.mach.cache.hand, .int .i64 y.mach.tags.count, .int .i64 y.mach.tags.next, .int .i64 y.mach.tags.round, .slice b.o y.mach.tags.owns.length b.oc, .int .i64 y.mach.space, .slice L y.marks.length l, .int .i64 y.hand]) := Lib.hid (KY.out.chg Y2.out (by omega))
    replace DX := Lib.hid (HX.out.ex Ew2.out)
    replace DY := Lib.hid (HY.out.ex Ew2.out)
    obtain ⟨qX0, qX1, qX2, qX3, qX4, qX5, qX6, qX7, qX8, qX9, qX10⟩ := KX.out.c11
    have jX := KX.out.lt
    obtain ⟨qY0, qY1, qY2, qY3, qY4, qY5, qY6, qY7, qY8, qY9, qY10⟩ := KY.out.c11
    have jY := KY.out.lt
    go_wp2
    go_ret
    exact ⟨rfl, Ew2.out⟩
  rw [h2] at C2
  have e : eqB x y = (x.hand == y.hand) := by rw [Bool.eq_iff_iff, eqB_true, HE.out, beq_iff_eq]; exact ⟨fun h => h.2.2, fun h => ⟨eqB_true.1 h1, eqB_true.1 h2, h⟩⟩
  rw [e]
  clear e h1 h2
  go_enter Try.func19, Try.ntmps19
  go_wp2_with fail
  refine name_calls ?_; intro v1 hv1
  have X1 : Hid (Chg (0) (0) w v1) := Lib.hid (by rw [hv1]; repeat' (first | with_reducible exact Chg.refl _ _ _ | with_reducible refine Chg.alloc ?_ _ | with_reducible refine Chg.drew ?_ | with_reducible refine Chg.set ?_ (by omega) _))
  have t1 : w.heap.size ≤ v1.heap.size := X1.out.size
  have Ev1 : Hid (Ex w v1) := Lib.hid ((Ex.refl w).chg X1.out (by omega))
  have KX : Hid (Blk v1 (w.heap.size) 65 [.slice a.b x.mach.table.buckets.length a.bc, .slice a.f x.mach.table.frames.length a.fc, .slice a.l x.mach.cache.lines.length a.lc, .int .i64 x.mach.cache.hand, .int .i64 x.mach.tags.count, .int .i64 x.mach.tags.next, .int .i64 x.mach.tags.round, .slice a.o x.mach.tags.owns.length a.oc, .int .i64 x.mach.space, .slice K x.marks.length k, .int .i64 x.hand]) := Lib.hid (by rw [hv1]; repeat' (first | with_reducible exact Blk.new_at _ _ _ (by simp) | with_reducible refine Blk.alloc ?_ _ | with_reducible refine Blk.drew ?_ | with_reducible refine Blk.far ?_ (by simp; omega) _))
  have lX : w.heap.size < v1.heap.size := KX.out.lt
  have KY : Hid (Blk v1 (w.heap.size + 1) 65 [.slice b.b y.mach.table.buckets.length b.bc, .slice b.f y.mach.table.frames.length b.fc, .slice b.l y.mach.cache.lines.length b.lc, .int .i64 y.mach.cache.hand, .int .i64 y.mach.tags.count, .int .i64 y.mach.tags.next, .int .i64 y.mach.tags.round, .slice b.o y.mach.tags.owns.length b.oc, .int .i64 y.mach.space, .slice L y.marks.length l, .int .i64 y.hand]) := Lib.hid (by rw [hv1]; repeat' (first | with_reducible exact Blk.new_at _ _ _ (by simp) | with_reducible refine Blk.alloc ?_ _ | with_reducible refine Blk.drew ?_ | with_reducible refine Blk.far ?_ (by simp; omega) _))
  have lY : w.heap.size + 1 < v1.heap.size := KY.out.lt
  have DX := Lib.hid (HX.out.ex Ev1.out)
  have DY := Lib.hid (HY.out.ex Ev1.out)
  clear hv1
  refine (C1.out _ DX.out DY.out).mono ?_; rintro r w1 ⟨rfl, hb1⟩
  have Y1 : Hid (Chg 0 0 v1 w1) := Lib.hid (Chg.of_ex hb1)
  have s1 : v1.heap.size ≤ w1.heap.size := Y1.out.size
  have Ew1 : Hid (Ex w w1) := Lib.hid (Ev1.out.chg Y1.out (by omega))
  clear hb1
  replace KX : Hid (Blk w1 (w.heap.size) 65 [.slice a.b x.mach.table.buckets.length a.bc, .slice a.f x.mach.table.frames.length a.fc, .slice a.l x.mach.cache.lines.length a.lc, .int .i64 x.mach.cache.hand, .int .i64 x.mach.tags.count, .int .i64 x.mach.tags.next, .int .i64 x.mach.tags.round, .slice a.o x.mach.tags.owns.length a.oc, .int .i64 x.mach.space, .slice K x.marks.length k, .int .i64 x.hand]) := Lib.hid (KX.out.chg Y1.out (by omega))
  replace KY : Hid (Blk w1 (w.heap.size + 1) 65 [.slice b.b y.mach.table.buckets.length b.bc, .slice b.f y.mach.table.frames.length b.fc, .slice b.l y.mach.cache.lines.length b.lc, .int .i64 y.mach.cache.hand, .int .i64 y.mach.tags.count, .int .i64 y.mach.tags.next, .int .i64 y.mach.tags.round, .slice b.o y.mach.tags.owns.length b.oc, .int .i64 y.mach.space, .slice L y.marks.length l, .int .i64 y.hand]) := Lib.hid (KY.out.chg Y1.out (by omega))
  replace DX := Lib.hid (HX.out.ex Ew1.out)
  replace DY := Lib.hid (HY.out.ex Ew1.out)
  obtain ⟨qX0, qX1, qX2, qX3, qX4, qX5, qX6, qX7, qX8, qX9, qX10⟩ := KX.out.c11
  have jX := KX.out.lt
  obtain ⟨qY0, qY1, qY2, qY3, qY4, qY5, qY6, qY7, qY8, qY9, qY10⟩ := KY.out.c11
  have jY := KY.out.lt
  go_wp2_with fail
  refine name_calls ?_; intro v2 hv2
  have X2 : Hid (Chg (0) (0) w1 v2) := Lib.hid (by rw [hv2]; repeat' (first | with_reducible exact Chg.refl _ _ _ | with_reducible refine Chg.alloc ?_ _ | with_reducible refine Chg.drew ?_ | with_reducible refine Chg.set ?_ (by omega) _))
  have t2 : w1.heap.size ≤ v2.heap.size := X2.out.size
  have Ev2 : Hid (Ex w v2) := Lib.hid (Ew1.out.chg X2.out (by omega))
  clear qX0 qX1 qX2 qX3 qX4 qX5 qX6 qX7 qX8 qX9 qX10 jX
  clear qY0 qY1 qY2 qY3 qY4 qY5 qY6 qY7 qY8 qY9 qY10 jY
  replace KX : Hid (Blk v2 (w.heap.size) 65 [.slice a.b x.mach.table.buckets.length a.bc, .slice a.f x.mach.table.frames.length a.fc, .slice a.l x.mach.cache.lines.length a.lc, .int .i64 x.mach.cache.hand, .int .i64 x.mach.tags.count, .int .i64 x.mach.tags.next, .int .i64 x.mach.tags.round, .slice a.o x.mach.tags.owns.length a.oc, .int .i64 x.mach.space, .slice K x.marks.length k, .int .i64 x.hand]) := Lib.hid (KX.out.chg X2.out (by omega))
  replace KY : Hid (Blk v2 (w.heap.size + 1) 65 [.slice b.b y.mach.table.buckets.length b.bc, .slice b.f y.mach.table.frames.length b.fc, .slice b.l y.mach.cache.lines.length b.lc, .int .i64 y.mach.cache.hand, .int .i64 y.mach.tags.count, .int .i64 y.mach.tags.next, .int .i64 y.mach.tags.round, .slice b.o y.mach.tags.owns.length b.oc, .int .i64 y.mach.space, .slice L y.marks.length l, .int .i64 y.hand]) := Lib.hid (KY.out.chg X2.out (by omega))
  replace DX := Lib.hid (HX.out.ex Ev2.out)
  replace DY := Lib.hid (HY.out.ex Ev2.out)
  clear hv2
  refine (C2.out _ DX.out DY.out).mono ?_; rintro r w2 ⟨rfl, hb2⟩
  have Y2 : Hid (Chg 0 0 v2 w2) := Lib.hid (Chg.of_ex hb2)
  have s2 : v2.heap.size ≤ w2.heap.size := Y2.out.size
  have Ew2 : Hid (Ex w w2) := Lib.hid (Ev2.out.chg Y2.out (by omega))
  clear hb2
  replace KX : Hid (Blk w2 (w.heap.size) 65 [.slice a.b x.mach.table.buckets.length a.bc, .slice a.f x.mach.table.frames.length a.fc, .slice a.l x.mach.cache.lines.length a.lc, .int .i64 x.mach.cache.hand, .int .i64 x.mach.tags.count, .int .i64 x.mach.tags.next, .int .i64 x.mach.tags.round, .slice a.o x.mach.tags.owns.length a.oc, .int .i64 x.mach.space, .slice K x.marks.length k, .int .i64 x.hand]) := Lib.hid (KX.out.chg Y2.out (by omega))
  replace KY : Hid (Blk w2 (w.heap.size + 1) 65 [.slice b.b y.mach.table.buckets.length b.bc, .slice b.f y.mach.table.frames.length b.fc, .slice b.l y.mach.cache.lines.length b.lc, .int .i64 y.mach.cache.hand, .int .i64 y.mach.tags.count, .int .i64 y.mach.tags.next, .int .i64 y.mach.tags.round, .slice b.o y.mach.tags.owns.length b.oc, .int .i64 y.mach.space, .slice L y.marks.length l, .int .i64 y.hand]) := Lib.hid (KY.out.chg Y2.out (by omega))
  replace DX := Lib.hid (HX.out.ex Ew2.out)
  replace DY := Lib.hid (HY.out.ex Ew2.out)
  obtain ⟨qX0, qX1, qX2, qX3, qX4, qX5, qX6, qX7, qX8, qX9, qX10⟩ := KX.out.c11
  have jX := KX.out.lt
  obtain ⟨qY0, qY1, qY2, qY3, qY4, qY5, qY6, qY7, qY8, qY9, qY10⟩ := KY.out.c11
  have jY := KY.out.lt
  go_wp2
  go_ret
  exact ⟨rfl, Ew2.out⟩

set_option maxHeartbeats 2000000 in
theorem memSameS_c (x y : MemD) (a b : MA) (K L : Option Addr) (k l : Nat) (w : World) (hx : HasE w x a K) (hy : HasE w y b L) (hf : FewE x) (hg : FewE y) :
    Calls Try.prog 17 #[.agg #[.slice a.b x.mach.table.buckets.length a.bc, .slice a.f x.mach.table.frames.length a.fc, .slice a.l x.mach.cache.lines.length a.lc, .int .i64 x.mach.cache.hand, .int .i64 x.mach.tags.count, .int .i64 x.mach.tags.next, .int .i64 x.mach.tags.round, .slice a.o x.mach.tags.owns.length a.oc, .int .i64 x.mach.space, .slice K x.marks.length k, .int .i64 x.hand], .agg #[.slice b.b y.mach.table.buckets.length b.bc, .slice b.f y.mach.table.frames.length b.fc, .slice b.l y.mach.cache.lines.length b.lc, .int .i64 y.mach.cache.hand, .int .i64 y.mach.tags.count, .int .i64 y.mach.tags.next, .int .i64 y.mach.tags.round, .slice b.o y.mach.tags.owns.length b.oc, .int .i64 y.mach.space, .slice L y.marks.length l, .int .i64 y.hand]] w fun r w' => r = .returned (.bool (eqB x y)) ∧ Ex w w' := by
  have C1 := Lib.hid (fun w (h1 : HasE w x a K) (h2 : HasE w y b L) => machSameS_c x.mach y.mach a b w h1.m h2.m hf.m hg.m)
  have HX := Lib.hid hx
  have HY := Lib.hid hy
  have HE := Lib.hid (mem_eq x y)
  have hn := hf.k
  have hm := hg.k
  clear hx hy hf hg
  cases h1 : eqB x.mach y.mach
  · rw [h1] at C1
    have e : eqB x y = false := by rw [eqB_false, Ne, HE.out]; intro h; exact eqB_false.1 h1 h.1
    rw [e]
    clear e h1
    go_enter Try.func17, Try.ntmps17
    go_wp2_with fail
    refine name_calls ?_; intro v1 hv1
    have X1 : Hid (Chg (0) (0) w v1) := Lib.hid (by rw [hv1]; repeat' (first | with_reducible exact Chg.refl _ _ _ | with_reducible refine Chg.alloc ?_ _ | with_reducible refine Chg.drew ?_ | with_reducible refine Chg.set ?_ (by omega) _))
    have t1 : w.heap.size ≤ v1.heap.size := X1.out.size
    have Ev1 : Hid (Ex w v1) := Lib.hid ((Ex.refl w).chg X1.out (by omega))
    have KX : Hid (Blk v1 (w.heap.size) 65 [.slice a.b x.mach.table.buckets.length a.bc, .slice a.f x.mach.table.frames.length a.fc, .slice a.l x.mach.cache.lines.length a.lc, .int .i64 x.mach.cache.hand, .int .i64 x.mach.tags.count, .int .i64 x.mach.tags.next, .int .i64 x.mach.tags.round, .slice a.o x.mach.tags.owns.length a.oc, .int .i64 x.mach.space, .slice K x.marks.length k, .int .i64 x.hand]) := Lib.hid (by rw [hv1]; repeat' (first | with_reducible exact Blk.new_at _ _ _ (by simp) | with_reducible refine Blk.alloc ?_ _ | with_reducible refine Blk.drew ?_ | with_reducible refine Blk.far ?_ (by simp; omega) _))
    have lX : w.heap.size < v1.heap.size := KX.out.lt
    have KY : Hid (Blk v1 (w.heap.size + 1) 65 [.slice b.b y.mach.table.buckets.length b.bc, .slice b.f y.mach.table.frames.length b.fc, .slice b.l y.mach.cache.lines.length b.lc, .int .i64 y.mach.cache.hand, .int .i64 y.mach.tags.count, .int .i64 y.mach.tags.next, .int .i64 y.mach.tags.round, .slice b.o y.mach.tags.owns.length b.oc, .int .i64 y.mach.space, .slice L y.marks.length l, .int .i64 y.hand]) := Lib.hid (by rw [hv1]; repeat' (first | with_reducible exact Blk.new_at _ _ _ (by simp) | with_reducible refine Blk.alloc ?_ _ | with_reducible refine Blk.drew ?_ | with_reducible refine Blk.far ?_ (by simp; omega) _))
    have lY : w.heap.size + 1 < v1.heap.size := KY.out.lt
    have DX := Lib.hid (HX.out.ex Ev1.out)
    have DY := Lib.hid (HY.out.ex Ev1.out)
    clear hv1
    refine (C1.out _ DX.out DY.out).mono ?_; rintro r w1 ⟨rfl, hb1⟩
    have Y1 : Hid (Chg 0 0 v1 w1) := Lib.hid (Chg.of_ex hb1)
    have s1 : v1.heap.size ≤ w1.heap.size := Y1.out.size
    have Ew1 : Hid (Ex w w1) := Lib.hid (Ev1.out.chg Y1.out (by omega))
    clear hb1
    replace KX : Hid (Blk w1 (w.heap.size) 65 [.slice a.b x.mach.table.buckets.length a.bc, .slice a.f x.mach.table.frames.length a.fc, .slice a.l x.mach.cache.lines.length a.lc, .int .i64 x.mach.cache.hand, .int .i64 x.mach.tags.count, .int .i64 x.mach.tags.next, .int .i64 x.mach.tags.round, .slice a.o x.mach.tags.owns.length a.oc, .int .i64 x.mach.space, .slice K x.marks.length k, .int .i64 x.hand]) := Lib.hid (KX.out.chg Y1.out (by omega))
    replace KY : Hid (Blk w1 (w.heap.size + 1) 65 [.slice b.b y.mach.table.buckets.length b.bc, .slice b.f y.mach.table.frames.length b.fc, .slice b.l y.mach.cache.lines.length b.lc, .int .i64 y.mach.cache.hand, .int .i64 y.mach.tags.count, .int .i64 y.mach.tags.next, .int .i64 y.mach.tags.round, .slice b.o y.mach.tags.owns.length b.oc, .int .i64 y.mach.space, .slice L y.marks.length l, .int .i64 y.hand]) := Lib.hid (KY.out.chg Y1.out (by omega))
    replace DX := Lib.hid (HX.out.ex Ew1.out)
    replace DY := Lib.hid (HY.out.ex Ew1.out)
    obtain ⟨qX0, qX1, qX2, qX3, qX4, qX5, qX6, qX7, qX8, qX9, qX10⟩ := KX.out.c11
    have jX := KX.out.lt
    obtain ⟨qY0, qY1, qY2, qY3, qY4, qY5, qY6, qY7, qY8, qY9, qY10⟩ := KY.out.c11
    have jY := KY.out.lt
    go_wp2
    go_ret
    exact ⟨rfl, Ew1.out⟩
  rw [h1] at C1
  cases h2 : (x.hand != y.hand)
  rotate_left
  · have e : eqB x y = false := by rw [eqB_false, Ne, HE.out]; intro h; rw [h.2.2] at h2; simp at h2
    rw [e]
    clear e h1
    go_enter Try.func17, Try.ntmps17
    go_wp2_with fail
    refine name_calls ?_; intro v1 hv1
    have X1 : Hid (Chg (0) (0) w v1) := Lib.hid (by rw [hv1]; repeat' (first | with_reducible exact Chg.refl _ _ _ | with_reducible refine Chg.alloc ?_ _ | with_reducible refine Chg.drew ?_ | with_reducible refine Chg.set ?_ (by omega) _))
    have t1 : w.heap.size ≤ v1.heap.size := X1.out.size
    have Ev1 : Hid (Ex w v1) := Lib.hid ((Ex.refl w).chg X1.out (by omega))
    have KX : Hid (Blk v1 (w.heap.size) 65 [.slice a.b x.mach.table.buckets.length a.bc, .slice a.f x.mach.table.frames.length a.fc, .slice a.l x.mach.cache.lines.length a.lc, .int .i64 x.mach.cache.hand, .int .i64 x.mach.tags.count, .int .i64 x.mach.tags.next, .int .i64 x.mach.tags.round, .slice a.o x.mach.tags.owns.length a.oc, .int .i64 x.mach.space, .slice K x.marks.length k, .int .i64 x.hand]) := Lib.hid (by rw [hv1]; repeat' (first | with_reducible exact Blk.new_at _ _ _ (by simp) | with_reducible refine Blk.alloc ?_ _ | with_reducible refine Blk.drew ?_ | with_reducible refine Blk.far ?_ (by simp; omega) _))
    have lX : w.heap.size < v1.heap.size := KX.out.lt
    have KY : Hid (Blk v1 (w.heap.size + 1) 65 [.slice b.b y.mach.table.buckets.length b.bc, .slice b.f y.mach.table.frames.length b.fc, .slice b.l y.mach.cache.lines.length b.lc, .int .i64 y.mach.cache.hand, .int .i64 y.mach.tags.count, .int .i64 y.mach.tags.next, .int .i64 y.mach.tags.round, .slice b.o y.mach.tags.owns.length b.oc, .int .i64 y.mach.space, .slice L y.marks.length l, .int .i64 y.hand]) := Lib.hid (by rw [hv1]; repeat' (first | with_reducible exact Blk.new_at _ _ _ (by simp) | with_reducible refine Blk.alloc ?_ _ | with_reducible refine Blk.drew ?_ | with_reducible refine Blk.far ?_ (by simp; omega) _))
    have lY : w.heap.size + 1 < v1.heap.size := KY.out.lt
    have DX := Lib.hid (HX.out.ex Ev1.out)
    have DY := Lib.hid (HY.out.ex Ev1.out)
    clear hv1
    refine (C1.out _ DX.out DY.out).mono ?_; rintro r w1 ⟨rfl, hb1⟩
    have Y1 : Hid (Chg 0 0 v1 w1) := Lib.hid (Chg.of_ex hb1)
    have s1 : v1.heap.size ≤ w1.heap.size := Y1.out.size
    have Ew1 : Hid (Ex w w1) := Lib.hid (Ev1.out.chg Y1.out (by omega))
    clear hb1
    replace KX : Hid (Blk w1 (w.heap.size) 65 [.slice a.b x.mach.table.buckets.length a.bc, .slice a.f x.mach.table.frames.length a.fc, .slice a.l x.mach.cache.lines.length a.lc, .int .i64 x.mach.cache.hand, .int .i64 x.mach.tags.count, .int .i64 x.mach.tags.next, .int .i64 x.mach.tags.round, .slice a.o x.mach.tags.owns.length a.oc, .int .i64 x.mach.space, .slice K x.marks.length k, .int .i64 x.hand]) := Lib.hid (KX.out.chg Y1.out (by omega))
    replace KY : Hid (Blk w1 (w.heap.size + 1) 65 [.slice b.b y.mach.table.buckets.length b.bc, .slice b.f y.mach.table.frames.length b.fc, .slice b.l y.mach.cache.lines.length b.lc, .int .i64 y.mach.cache.hand, .int .i64 y.mach.tags.count, .int .i64 y.mach.tags.next, .int .i64 y.mach.tags.round, .slice b.o y.mach.tags.owns.length b.oc, .int .i64 y.mach.space, .slice L y.marks.length l, .int .i64 y.hand]) := Lib.hid (KY.out.chg Y1.out (by omega))
    replace DX := Lib.hid (HX.out.ex Ew1.out)
    replace DY := Lib.hid (HY.out.ex Ew1.out)
    obtain ⟨qX0, qX1, qX2, qX3, qX4, qX5, qX6, qX7, qX8, qX9, qX10⟩ := KX.out.c11
    have jX := KX.out.lt
    obtain ⟨qY0, qY1, qY2, qY3, qY4, qY5, qY6, qY7, qY8, qY9, qY10⟩ := KY.out.c11
    have jY := KY.out.lt
    go_wp2
    go_ret
    exact ⟨rfl, Ew1.out⟩
  cases h3 : ((x.marks.length : Int) != (y.marks.length : Int))
  rotate_left
  · have e : eqB x y = false := by rw [eqB_false, Ne, HE.out]; intro h; rw [h.2.1] at h3; simp at h3
    rw [e]
    clear e h1
    go_enter Try.func17, Try.ntmps17
    go_wp2_with fail
    refine name_calls ?_; intro v1 hv1
    have X1 : Hid (Chg (0) (0) w v1) := Lib.hid (by rw [hv1]; repeat' (first | with_reducible exact Chg.refl _ _ _ | with_reducible refine Chg.alloc ?_ _ | with_reducible refine Chg.drew ?_ | with_reducible refine Chg.set ?_ (by omega) _))
    have t1 : w.heap.size ≤ v1.heap.size := X1.out.size
    have Ev1 : Hid (Ex w v1) := Lib.hid ((Ex.refl w).chg X1.out (by omega))
    have KX : Hid (Blk v1 (w.heap.size) 65 [.slice a.b x.mach.table.buckets.length a.bc, .slice a.f x.mach.table.frames.length a.fc, .slice a.l x.mach.cache.lines.length a.lc, .int .i64 x.mach.cache.hand, .int .i64 x.mach.tags.count, .int .i64 x.mach.tags.next, .int .i64 x.mach.tags.round, .slice a.o x.mach.tags.owns.length a.oc, .int .i64 x.mach.space, .slice K x.marks.length k, .int .i64 x.hand]) := Lib.hid (by rw [hv1]; repeat' (first | with_reducible exact Blk.new_at _ _ _ (by simp) | with_reducible refine Blk.alloc ?_ _ | with_reducible refine Blk.drew ?_ | with_reducible refine Blk.far ?_ (by simp; omega) _))
    have lX : w.heap.size < v1.heap.size := KX.out.lt
    have KY : Hid (Blk v1 (w.heap.size + 1) 65 [.slice b.b y.mach.table.buckets.length b.bc, .slice b.f y.mach.table.frames.length b.fc, .slice b.l y.mach.cache.lines.length b.lc, .int .i64 y.mach.cache.hand, .int .i64 y.mach.tags.count, .int .i64 y.mach.tags.next, .int .i64 y.mach.tags.round, .slice b.o y.mach.tags.owns.length b.oc, .int .i64 y.mach.space, .slice L y.marks.length l, .int .i64 y.hand]) := Lib.hid (by rw [hv1]; repeat' (first | with_reducible exact Blk.new_at _ _ _ (by simp) | with_reducible refine Blk.alloc ?_ _ | with_reducible refine Blk.drew ?_ | with_reducible refine Blk.far ?_ (by simp; omega) _))
    have lY : w.heap.size + 1 < v1.heap.size := KY.out.lt
    have DX := Lib.hid (HX.out.ex Ev1.out)
    have DY := Lib.hid (HY.out.ex Ev1.out)
    clear hv1
    refine (C1.out _ DX.out DY.out).mono ?_; rintro r w1 ⟨rfl, hb1⟩
    have Y1 : Hid (Chg 0 0 v1 w1) := Lib.hid (Chg.of_ex hb1)
    have s1 : v1.heap.size ≤ w1.heap.size := Y1.out.size
    have Ew1 : Hid (Ex w w1) := Lib.hid (Ev1.out.chg Y1.out (by omega))
    clear hb1
    replace KX : Hid (Blk w1 (w.heap.size) 65 [.slice a.b x.mach.table.buckets.length a.bc, .slice a.f x.mach.table.frames.length a.fc, .slice a.l x.mach.cache.lines.length a.lc, .int .i64 x.mach.cache.hand, .int .i64 x.mach.tags.count, .int .i64 x.mach.tags.next, .int .i64 x.mach.tags.round, .slice a.o x.mach.tags.owns.length a.oc, .int .i64 x.mach.space, .slice K x.marks.length k, .int .i64 x.hand]) := Lib.hid (KX.out.chg Y1.out (by omega))
    replace KY : Hid (Blk w1 (w.heap.size + 1) 65 [.slice b.b y.mach.table.buckets.length b.bc, .slice b.f y.mach.table.frames.length b.fc, .slice b.l y.mach.cache.lines.length b.lc, .int .i64 y.mach.cache.hand, .int .i64 y.mach.tags.count, .int .i64 y.mach.tags.next, .int .i64 y.mach.tags.round, .slice b.o y.mach.tags.owns.length b.oc, .int .i64 y.mach.space, .slice L y.marks.length l, .int .i64 y.hand]) := Lib.hid (KY.out.chg Y1.out (by omega))
    replace DX := Lib.hid (HX.out.ex Ew1.out)
    replace DY := Lib.hid (HY.out.ex Ew1.out)
    obtain ⟨qX0, qX1, qX2, qX3, qX4, qX5, qX6, qX7, qX8, qX9, qX10⟩ := KX.out.c11
    have jX := KX.out.lt
    obtain ⟨qY0, qY1, qY2, qY3, qY4, qY5, qY6, qY7, qY8, qY9, qY10⟩ := KY.out.c11
    have jY := KY.out.lt
    go_wp2
    go_ret
    exact ⟨rfl, Ew1.out⟩
  have HR : Hid (x.marks ≠ y.marks → eqB x y = false) := Lib.hid (fun hne => by rw [eqB_false, Ne, HE.out]; intro h; exact hne h.2.1)
  have HS : Hid (x.marks = y.marks → eqB x y = true) := Lib.hid (fun he => by rw [eqB_true, HE.out]; exact ⟨eqB_true.1 h1, he, by simpa using h2⟩)
  generalize eqB x y = res at HR HS ⊢
  have hl : x.marks.length = y.marks.length := by simp at h3; omega
  clear h1 HE
  obtain ⟨n, hn1⟩ : ∃ n, n = x.marks.length := ⟨_, rfl⟩
  have hn2 : y.marks.length = n := by omega
  have HN1 := Lib.hid hn1
  have HN2 := Lib.hid hn2
  rw [hn2, ← hn1]
  have hn' : n ≤ 1048576 := by omega
  clear hl hn1 hn2 hn hm
  go_enter Try.func17, Try.ntmps17
  go_wp2_with fail
  refine name_calls ?_; intro v1 hv1
  have X1 : Hid (Chg (0) (0) w v1) := Lib.hid (by rw [hv1]; repeat' (first | with_reducible exact Chg.refl _ _ _ | with_reducible refine Chg.alloc ?_ _ | with_reducible refine Chg.drew ?_ | with_reducible refine Chg.set ?_ (by omega) _))
  have t1 : w.heap.size ≤ v1.heap.size := X1.out.size
  have Ev1 : Hid (Ex w v1) := Lib.hid ((Ex.refl w).chg X1.out (by omega))
  have KX : Hid (Blk v1 (w.heap.size) 65 [.slice a.b x.mach.table.buckets.length a.bc, .slice a.f x.mach.table.frames.length a.fc, .slice a.l x.mach.cache.lines.length a.lc, .int .i64 x.mach.cache.hand, .int .i64 x.mach.tags.count, .int .i64 x.mach.tags.next, .int .i64 x.mach.tags.round, .slice a.o x.mach.tags.owns.length a.oc, .int .i64 x.mach.space, .slice K n k, .int .i64 x.hand]) := Lib.hid (by rw [hv1]; repeat' (first | with_reducible exact Blk.new_at _ _ _ (by simp) | with_reducible refine Blk.alloc ?_ _ | with_reducible refine Blk.drew ?_ | with_reducible refine Blk.far ?_ (by simp; omega) _))
  have lX : w.heap.size < v1.heap.size := KX.out.lt
  have KY : Hid (Blk v1 (w.heap.size + 1) 65 [.slice b.b y.mach.table.buckets.length b.bc, .slice b.f y.mach.table.frames.length b.fc, .slice b.l y.mach.cache.lines.length b.lc, .int .i64 y.mach.cache.hand, .int .i64 y.mach.tags.count, .int .i64 y.mach.tags.next, .int .i64 y.mach.tags.round, .slice b.o y.mach.tags.owns.length b.oc, .int .i64 y.mach.space, .slice L n l, .int .i64 y.hand]) := Lib.hid (by rw [hv1]; repeat' (first | with_reducible exact Blk.new_at _ _ _ (by simp) | with_reducible refine Blk.alloc ?_ _ | with_reducible refine Blk.drew ?_ | with_reducible refine Blk.far ?_ (by simp; omega) _))
  have lY : w.heap.size + 1 < v1.heap.size := KY.out.lt
  have DX := Lib.hid (HX.out.ex Ev1.out)
  have DY := Lib.hid (HY.out.ex Ev1.out)
  clear hv1
  refine (C1.out _ DX.out DY.out).mono ?_; rintro r w1 ⟨rfl, hb1⟩
  have Y1 : Hid (Chg 0 0 v1 w1) := Lib.hid (Chg.of_ex hb1)
  have s1 : v1.heap.size ≤ w1.heap.size := Y1.out.size
  have Ew1 : Hid (Ex w w1) := Lib.hid (Ev1.out.chg Y1.out (by omega))
  clear hb1
  replace KX : Hid (Blk w1 (w.heap.size) 65 [.slice a.b x.mach.table.buckets.length a.bc, .slice a.f x.mach.table.frames.length a.fc, .slice a.l x.mach.cache.lines.length a.lc, .int .i64 x.mach.cache.hand, .int .i64 x.mach.tags.count, .int .i64 x.mach.tags.next, .int .i64 x.mach.tags.round, .slice a.o x.mach.tags.owns.length a.oc, .int .i64 x.mach.space, .slice K n k, .int .i64 x.hand]) := Lib.hid (KX.out.chg Y1.out (by omega))
  replace KY : Hid (Blk w1 (w.heap.size + 1) 65 [.slice b.b y.mach.table.buckets.length b.bc, .slice b.f y.mach.table.frames.length b.fc, .slice b.l y.mach.cache.lines.length b.lc, .int .i64 y.mach.cache.hand, .int .i64 y.mach.tags.count, .int .i64 y.mach.tags.next, .int .i64 y.mach.tags.round, .slice b.o y.mach.tags.owns.length b.oc, .int .i64 y.mach.space, .slice L n l, .int .i64 y.hand]) := Lib.hid (KY.out.chg Y1.out (by omega))
  replace DX := Lib.hid (HX.out.ex Ew1.out)
  replace DY := Lib.hid (HY.out.ex Ew1.out)
  obtain ⟨qX0, qX1, qX2, qX3, qX4, qX5, qX6, qX7, qX8, qX9, qX10⟩ := KX.out.c11
  have jX := KX.out.lt
  obtain ⟨qY0, qY1, qY2, qY3, qY4, qY5, qY6, qY7, qY8, qY9, qY10⟩ := KY.out.c11
  have jY := KY.out.lt
  have DXK : Hid (Rd w1 K x.marks) := Lib.hid (DX.out.k)
  obtain ⟨gX, hgX⟩ : ∃ g, g = w.heap.size := ⟨_, rfl⟩
  obtain ⟨gY, hgY⟩ : ∃ g, g = w.heap.size + 1 := ⟨_, rfl⟩
  rw [← hgY] at KY qY0 qY1 qY2 qY3 qY4 qY5 qY6 qY7 qY8 qY9 qY10 jY ⊢
  rw [← hgX] at KX qX0 qX1 qX2 qX3 qX4 qX5 qX6 qX7 qX8 qX9 qX10 jX ⊢
  clear hgX hgY
  go_wp2
  go_loopw [5] (fun i wr => ∃ j : Nat, j ≤ n ∧ i = .int .i64 j ∧ Ex w1 wr ∧ x.marks.take j = y.marks.take j) (fun i _ => n - (intOf i).toNat)
  case atStart => exact ⟨0, Nat.zero_le _, rfl, Ex.refl _, rfl⟩
  case round =>
    obtain ⟨j, hj, rfl, hbel, htk⟩ := hrel
    clear qY0 qY1 qY2 qY3 qY4 qY5 qY6 qY7 qY8 qY9 qY10 jY qX0 qX1 qX2 qX3 qX4 qX5 qX6 qX7 qX8 qX9 qX10 jX
    have HT := Lib.hid htk
    have HBEL := Lib.hid hbel
    obtain ⟨-, -, -, -, -, -, -, -, -, q9, -⟩ := (KX.out.ex hbel).c11
    obtain ⟨-, -, -, -, -, -, -, -, -, p9, -⟩ := (KY.out.ex hbel).c11
    have jx := (KX.out.ex hbel).lt
    have jy := (KY.out.ex hbel).lt
    clear htk hbel
    by_cases hlt : j < n
    · obtain ⟨b1, o1, u, rfl, hb1, hxk, h0⟩ := Rd.bool (DX.out.k.ex HBEL.out) (k := j) (by have := HN1.out; omega)
      obtain ⟨b2, o2, v, rfl, hb2, hyk, g0⟩ := Rd.bool (DY.out.k.ex HBEL.out) (k := j) (by have := HN2.out; omega)
      have HXK := Lib.hid hxk
      have HYK := Lib.hid hyk
      clear hxk hyk
      by_cases hxy : u = v
      · have hne : (!(u == v)) = false := by simpa using hxy
        have HUV := Lib.hid hxy
        clear hxy
        go_wp2_with fail
        go_quiet (fail)
        go_wp2
        go_roundw
        case rel => exact ⟨j + 1, by omega, by go_num, HBEL.out.drewN _, (take_eq_step HXK.out HYK.out).2 ⟨HT.out, HUV.out⟩⟩
        case measure => simp [intOf]; omega
      · have hne : (!(u == v)) = true := by simpa using hxy
        have HUV := Lib.hid hxy
        clear hxy
        go_wp2_with fail
        go_quiet (fail)
        go_wp2
        go_ret
        exact ⟨ret_bool (HR.out (fun hh => ne_of_elem HXK.out HYK.out HUV.out hh)).symm, (Ew1.out.trans HBEL.out).drewN _⟩
    · have hjm : ¬ (j : Int) < (n : Int) := by omega
      go_wp2
      go_ret
      exact ⟨ret_bool (HS.out (eq_of_take HN1.out.symm HN2.out (by rw [show n = j from by omega]; exact HT.out))).symm, Ew1.out.trans HBEL.out⟩
end Go.Proofs.Ytkoegcalfibinaa
