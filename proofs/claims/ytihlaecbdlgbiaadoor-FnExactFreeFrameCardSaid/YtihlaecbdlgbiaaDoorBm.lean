/- Joined: Ms, Mb, Me. -/
import Derived.Test.YtihlaecbdlgbiaaDoorMm
import Derived.Test.YtihlaecbdlgbiaaDoorTd
import Derived.Test.YtihlaecbdlgbiaaDoorChg
import Derived.Test.YtihlaecbdlgbiaaDoorRows
/- MachineSame of both sides. -/
namespace Go.Proofs.YtihlaecbdlgbiaaDoor
open Go.ChangeShapes Go.WideShapes Go.ChangeAt Go.RowKit
open Rec (sz cs)
set_option linter.unusedVariables false
set_option maxRecDepth 100000

end Go.Proofs.YtihlaecbdlgbiaaDoor

/- Contracts of the small functions over Bool: comparing, copying, counting, marking. Written by a program of mine from one pattern. -/
namespace Go.Proofs.YtihlaecbdlgbiaaDoor
open Go.ChangeShapes Go.WideShapes Go.ChangeAt Go.RowKit
open Rec (sz cs)
set_option linter.unusedVariables false
set_option maxRecDepth 100000

set_option maxHeartbeats 1000000 in
theorem eqBoolS_self_c (A B : Option Addr) (c d : Nat) (xs : List Bool) (w : World) (hx : Rd w A xs) (hy : Rd w B xs) (hn : xs.length ≤ 1048576) :
   Calls Tryd.prog 42 #[.slice A xs.length c, .slice B xs.length d] w
   fun r w' => r = .returned (.bool true) ∧ Ex w w' := by
  obtain ⟨n, hn1⟩ : ∃ n, n = xs.length := ⟨_, rfl⟩
  rw [← hn1]
  have hn' : n ≤ 1048576 := by omega
  have HX := Lib.hid hn1
  have H1 := Lib.hid hx
  have H2 := Lib.hid hy
  clear hn hn1 hx hy
  go_enter Tryd.func42, Tryd.ntmps42
  go_wp2
  go_loopw [5] (fun i wr => ∃ k : Nat, k ≤ n ∧ i = .int .i64 k ∧ Ex w wr) (fun i _ => n - (intOf i).toNat)
  case atStart => exact ⟨0, Nat.zero_le _, rfl, Ex.refl _⟩
  case round =>
    obtain ⟨k, hk, rfl, hbel⟩ := hrel
    have HB := Lib.hid hbel
    clear hbel
    by_cases hlt : k < n
    · obtain ⟨b1, o1, x, rfl, hb1, hxk, h0⟩ := Rd.bool (H1.out.ex HB.out) (k := k) (by have := HX.out; omega)
      obtain ⟨b2, o2, y, rfl, hb2, hyk, g0⟩ := Rd.bool (H2.out.ex HB.out) (k := k) (by have := HX.out; omega)
      have e : y = x := by rw [hxk] at hyk; injection hyk with e; exact e.symm
      subst e
      have hne : (y != y) = false := by simp
      clear hxk hyk
      go_wp2_with fail
      go_quiet (fail)
      go_wp2
      go_roundw
      case rel => exact ⟨k + 1, by omega, by go_num, HB.out.drewN _⟩
      case measure => simp [intOf]; omega
    · go_wp2
      go_ret
      exact ⟨rfl, HB.out⟩

set_option maxHeartbeats 400000 in
theorem szBoolS_c (A : Option Addr) (n c : Nat) (l : Int) (w : World) (h0 : 0 ≤ l) (h1 : l ≤ 1048576) (hn : n ≤ maxLen) :
    Calls Tryd.prog 39 #[.slice A n c, .int .i64 l] w fun r w' => r = .returned (.int .i64 (szI l n)) ∧ w = w' := by
  unfold maxLen at hn
  by_cases hlt : l < n
  · have hd : l - n < 0 := by omega
    have HF := Lib.hid (szI_neg hlt)
    go_enter Tryd.func39, Tryd.ntmps39
    go_wp2
    go_ret
    exact ⟨ret_int HF.out.symm, rfl⟩
  · have hd : ¬ l - n < 0 := by omega
    have HF := Lib.hid (szI_pos hlt)
    go_enter Tryd.func39, Tryd.ntmps39
    go_wp2
    go_ret
    exact ⟨ret_int HF.out.symm, rfl⟩

theorem infoMBool : (Tryd.prog.info? 4).map (fun i => (i.zero, i.size, i.bytes)) = some (some (.bool false), 1, 1) := by kernel_rfl

set_option maxHeartbeats 1000000 in
theorem toBoolS_c (A : Option Addr) (c : Nat) (xs : List Bool) (w : World) (hx : Rd w A xs) (hn : xs.length ≤ 1048576) :
    Calls Tryd.prog 40 #[.slice A xs.length c] w
    fun r w' => ∃ A' c', r = .returned (.slice A' xs.length c') ∧ Fr 4 w' w.heap.size A' c' xs ∧ Ex w w' := by
  obtain ⟨n, hn1⟩ : ∃ n, n = xs.length := ⟨_, rfl⟩
  rw [← hn1]
  have hn' : n ≤ 1048576 := by omega
  have hmk := make_rec (P := Tryd.prog) (α := Bool) 50 4 1 false _ Tryd.underlying50 infoMBool rfl n (by omega) (by omega)
  have HX := Lib.hid hn1
  have H1 := Lib.hid hx
  clear hn hn1 hx
  go_enter Tryd.func40, Tryd.ntmps40
  go_wp2
  clear hmk
  go_loopw [4] (fun i wr => ∃ (k : Nat) (zs : List Bool), k ≤ n ∧ i = .int .i64 k ∧ Ex w wr ∧ zs.length = n ∧ zs.take k = xs.take k ∧ Bk 4 wr w.heap.size zs []) (fun i _ => n - (intOf i).toNat)
  case atStart => exact ⟨0, List.replicate n false, Nat.zero_le _, rfl, (Ex.refl _).alloc _, List.length_replicate, rfl, Bk.new _ _ _⟩
  case round =>
    obtain ⟨k, zs, hk, rfl, hbel, hzs, htk, hB⟩ := hrel
    have HT := Lib.hid htk
    have HZ := Lib.hid hzs
    have HB := Lib.hid hB
    clear htk hzs hB
    by_cases hlt : k < n
    · obtain ⟨b1, o1, x, rfl, hb1, hxk, h0⟩ := Rd.bool (H1.out.ex hbel) (k := k) (by have := HX.out; omega)
      obtain ⟨z, hzk⟩ : ∃ z, zs[k]? = some z := ⟨_, List.getElem?_eq_getElem (by have := HZ.out; omega)⟩
      have HXK := Lib.hid hxk
      have HZK := Lib.hid hzk
      have hc0 := HB.out.bool hzk
      have hfz := Bk.frozen HB.out
      have lgB := Blk.lt HB.out
      clear hxk hzk
      go_wp2
      go_roundw
      case rel => exact ⟨k + 1, zs.set k x, by omega, by go_num, hbel.set (Nat.le_refl _) _, by rw [List.length_set]; exact HZ.out, (by rw [take_set_succ _ HZ.out hlt, take_succ_of HXK.out, HT.out]), HB.out.set_bool x (by have := HZ.out; omega)⟩
      case measure => simp [intOf]; omega
    · go_wp2
      go_ret
      have e : zs = xs := eq_of_take HZ.out HX.out.symm (by rw [show n = k from by omega]; exact HT.out)
      subst e
      exact ⟨_, _, rfl, ⟨by have := HX.out; omega, by simp only [maxLen]; omega, .inr ⟨_, [], rfl, Nat.le_refl _, HB.out, by rw [HX.out, Nat.sub_self, Nat.zero_mul]; exact Nat.zero_le _⟩⟩, hbel⟩

def mkBool (k : Int) : Bool := (k) % 3 == 0

end Go.Proofs.YtihlaecbdlgbiaaDoor

/- Contracts over whole memories. -/
namespace Go.Proofs.YtihlaecbdlgbiaaDoor
open Go.ChangeShapes Go.WideShapes Go.ChangeAt Go.RowKit
open Rec (sz cs)
set_option linter.unusedVariables false
set_option maxRecDepth 100000

def sumE (m : MemD) : Nat := sumM m.mach + m.marks.length

/-- A memory's slices read as its lists. -/
structure HasE (w : World) (e : MemD) (a : MA) (K : Option Addr) : Prop where
  m : HasM w e.mach a
  k : Rd w K e.marks
theorem HasE.ex {w w' : World} {m : MemD} {a : MA} {K : Option Addr} (h : HasE w m a K) (k : Ex w w') : HasE w' m a K := ⟨h.m.ex k, h.k.ex k⟩
theorem HasE.drew {w : World} {m : MemD} {a : MA} {K : Option Addr} (h : HasE w m a K) : HasE w.drew m a K := ⟨h.m.drew, h.k⟩
structure FewE (e : MemD) : Prop where
  m : FewM e.mach
  k : e.marks.length ≤ 1048576
structure LenE (e : MemD) : Prop where
  m : LenM e.mach
  k : e.marks.length ≤ maxLen
structure CapE (e : MemD) (a : MA) (kc : Nat) : Prop where
  m : CapM e.mach a
  k : e.marks.length ≤ kc
theorem FewE.of_sum {m : MemD} (h : sumE m ≤ 1048576) : FewE m := by
  unfold sumE at h
  exact ⟨FewM.of_sum (by omega), by omega⟩

/-- A memory's slices are the call's own. -/
structure FrE (w : World) (B : Nat) (e : MemD) (a : MA) (K : Option Addr) (kc : Nat) : Prop where
  m : FrM w B e.mach a
  k : Fr 4 w B K kc e.marks
theorem FrE.has {w : World} {B : Nat} {m : MemD} {a : MA} {K : Option Addr} {k : Nat} (h : FrE w B m a K k) : HasE w m a K := ⟨h.m.has, h.k.rd⟩
theorem FrE.cap {w : World} {B : Nat} {m : MemD} {a : MA} {K : Option Addr} {k : Nat} (h : FrE w B m a K k) : CapE m a k := ⟨h.m.cap, h.k.le⟩
theorem FrE.ex {w w' : World} {B : Nat} {m : MemD} {a : MA} {K : Option Addr} {k : Nat} (h : FrE w B m a K k) (e : Ex w w') : FrE w' B m a K k := ⟨h.m.ex e, h.k.ex e⟩

set_option maxHeartbeats 1000000 in
theorem szMemory_c (m : MemD) (a : MA) (K : Option Addr) (k : Nat) (l : Int) (w : World) (h0 : 0 ≤ l) (h1 : l ≤ 1048576) (hm : LenE m) :
    Calls Tryd.prog 11 #[.agg #[.slice a.b m.mach.table.buckets.length a.bc, .slice a.f m.mach.table.frames.length a.fc, .slice a.l m.mach.cache.lines.length a.lc, .int .i64 m.mach.cache.hand, .int .i64 m.mach.tags.count, .int .i64 m.mach.tags.next, .int .i64 m.mach.tags.round, .slice a.o m.mach.tags.owns.length a.oc, .int .i64 m.mach.space, .slice K m.marks.length k, .int .i64 m.hand], .int .i64 l] w fun r w' => r = .returned (.int .i64 (szI l (sumE m))) ∧ Ex w w' := by
  have C1 := Lib.hid (fun w => szMachine_c m.mach a l w h0 h1 hm.m)
  unfold sumE
  by_cases h2 : l < (sumM m.mach : Nat)
  · rw [szI_neg h2] at C1
    rw [szI_neg (by omega)]
    go_enter Tryd.func11, Tryd.ntmps11
    go_wp2_with fail
    refine name_calls ?_; intro v1 hv1
    have X1 : Hid (Chg (0) (0) w v1) := Lib.hid (by rw [hv1]; repeat' (first | with_reducible exact Chg.refl _ _ _ | with_reducible refine Chg.alloc ?_ _ | with_reducible refine Chg.drew ?_ | with_reducible refine Chg.set ?_ (by omega) _))
    have t1 : w.heap.size ≤ v1.heap.size := X1.out.size
    have Ev1 : Hid (Ex w v1) := Lib.hid ((Ex.refl w).chg X1.out (by omega))
    have KX : Hid (Blk v1 (w.heap.size) 52 [.slice a.b m.mach.table.buckets.length a.bc, .slice a.f m.mach.table.frames.length a.fc, .slice a.l m.mach.cache.lines.length a.lc, .int .i64 m.mach.cache.hand, .int .i64 m.mach.tags.count, .int .i64 m.mach.tags.next, .int .i64 m.mach.tags.round, .slice a.o m.mach.tags.owns.length a.oc, .int .i64 m.mach.space, .slice K m.marks.length k, .int .i64 m.hand]) := Lib.hid (by rw [hv1]; repeat' (first | with_reducible exact Blk.new_at _ _ _ (by simp) | with_reducible refine Blk.alloc ?_ _ | with_reducible refine Blk.drew ?_ | with_reducible refine Blk.far ?_ (by simp; omega) _))
    have lX : w.heap.size < v1.heap.size := KX.out.lt
    clear hv1
    refine (C1.out _).mono ?_; rintro r w1 ⟨rfl, hb1⟩
    have Y1 : Hid (Chg 0 0 v1 w1) := Lib.hid (Chg.of_ex hb1)
    have s1 : v1.heap.size ≤ w1.heap.size := Y1.out.size
    have Ew1 : Hid (Ex w w1) := Lib.hid (Ev1.out.chg Y1.out (by omega))
    clear hb1
    replace KX : Hid (Blk w1 (w.heap.size) 52 [.slice a.b m.mach.table.buckets.length a.bc, .slice a.f m.mach.table.frames.length a.fc, .slice a.l m.mach.cache.lines.length a.lc, .int .i64 m.mach.cache.hand, .int .i64 m.mach.tags.count, .int .i64 m.mach.tags.next, .int .i64 m.mach.tags.round, .slice a.o m.mach.tags.owns.length a.oc, .int .i64 m.mach.space, .slice K m.marks.length k, .int .i64 m.hand]) := Lib.hid (KX.out.chg Y1.out (by omega))
    obtain ⟨qX0, qX1, qX2, qX3, qX4, qX5, qX6, qX7, qX8, qX9, qX10⟩ := KX.out.c11
    have jX := KX.out.lt
    go_wp2
    go_ret
    exact ⟨rfl, Ew1.out⟩
  rw [szI_pos h2] at C1
  obtain ⟨l1, hl1⟩ : ∃ l1 : Int, l1 = l - (sumM m.mach : Nat) := ⟨_, rfl⟩
  rw [← hl1] at C1
  have h3 : 0 ≤ l1 := by omega
  have h3' : ¬ l1 < 0 := by omega
  have C2 := Lib.hid (fun w => szBoolS_c K m.marks.length k l1 w h3 (by omega) hm.k)
  by_cases h4 : l1 < (m.marks.length : Nat)
  · rw [szI_neg h4] at C2
    rw [szI_neg (by omega)]
    clear hl1 h2
    go_enter Tryd.func11, Tryd.ntmps11
    go_wp2_with fail
    refine name_calls ?_; intro v1 hv1
    have X1 : Hid (Chg (0) (0) w v1) := Lib.hid (by rw [hv1]; repeat' (first | with_reducible exact Chg.refl _ _ _ | with_reducible refine Chg.alloc ?_ _ | with_reducible refine Chg.drew ?_ | with_reducible refine Chg.set ?_ (by omega) _))
    have t1 : w.heap.size ≤ v1.heap.size := X1.out.size
    have Ev1 : Hid (Ex w v1) := Lib.hid ((Ex.refl w).chg X1.out (by omega))
    have KX : Hid (Blk v1 (w.heap.size) 52 [.slice a.b m.mach.table.buckets.length a.bc, .slice a.f m.mach.table.frames.length a.fc, .slice a.l m.mach.cache.lines.length a.lc, .int .i64 m.mach.cache.hand, .int .i64 m.mach.tags.count, .int .i64 m.mach.tags.next, .int .i64 m.mach.tags.round, .slice a.o m.mach.tags.owns.length a.oc, .int .i64 m.mach.space, .slice K m.marks.length k, .int .i64 m.hand]) := Lib.hid (by rw [hv1]; repeat' (first | with_reducible exact Blk.new_at _ _ _ (by simp) | with_reducible refine Blk.alloc ?_ _ | with_reducible refine Blk.drew ?_ | with_reducible refine Blk.far ?_ (by simp; omega) _))
    have lX : w.heap.size < v1.heap.size := KX.out.lt
    clear hv1
    refine (C1.out _).mono ?_; rintro r w1 ⟨rfl, hb1⟩
    have Y1 : Hid (Chg 0 0 v1 w1) := Lib.hid (Chg.of_ex hb1)
    have s1 : v1.heap.size ≤ w1.heap.size := Y1.out.size
    have Ew1 : Hid (Ex w w1) := Lib.hid (Ev1.out.chg Y1.out (by omega))
    clear hb1
    replace KX : Hid (Blk w1 (w.heap.size) 52 [.slice a.b m.mach.table.buckets.length a.bc, .slice a.f m.mach.table.frames.length a.fc, .slice a.l m.mach.cache.lines.length a.lc, .int .i64 m.mach.cache.hand, .int .i64 m.mach.tags.count, .int .i64 m.mach.tags.next, .int .i64 m.mach.tags.round, .slice a.o m.mach.tags.owns.length a.oc, .int .i64 m.mach.space, .slice K m.marks.length k, .int .i64 m.hand]) := Lib.hid (KX.out.chg Y1.out (by omega))
    obtain ⟨qX0, qX1, qX2, qX3, qX4, qX5, qX6, qX7, qX8, qX9, qX10⟩ := KX.out.c11
    have jX := KX.out.lt
    go_wp2_with fail
    refine (C2.out _).mono ?_; rintro r wq2 ⟨rfl, rfl⟩
    go_wp2
    go_ret
    exact ⟨rfl, Ew1.out⟩
  rw [szI_pos h4] at C2
  obtain ⟨l2, hl2⟩ : ∃ l2 : Int, l2 = l1 - (m.marks.length : Nat) := ⟨_, rfl⟩
  rw [← hl2] at C2
  have h5' : ¬ l2 < 0 := by omega
  have HE : Hid (l - ((sumM m.mach + m.marks.length : Nat) : Int) = l2) := Lib.hid (by omega)
  rw [szI_pos (by omega)]
  clear hl1 hl2 h2 h4
  go_enter Tryd.func11, Tryd.ntmps11
  go_wp2_with fail
  refine name_calls ?_; intro v1 hv1
  have X1 : Hid (Chg (0) (0) w v1) := Lib.hid (by rw [hv1]; repeat' (first | with_reducible exact Chg.refl _ _ _ | with_reducible refine Chg.alloc ?_ _ | with_reducible refine Chg.drew ?_ | with_reducible refine Chg.set ?_ (by omega) _))
  have t1 : w.heap.size ≤ v1.heap.size := X1.out.size
  have Ev1 : Hid (Ex w v1) := Lib.hid ((Ex.refl w).chg X1.out (by omega))
  have KX : Hid (Blk v1 (w.heap.size) 52 [.slice a.b m.mach.table.buckets.length a.bc, .slice a.f m.mach.table.frames.length a.fc, .slice a.l m.mach.cache.lines.length a.lc, .int .i64 m.mach.cache.hand, .int .i64 m.mach.tags.count, .int .i64 m.mach.tags.next, .int .i64 m.mach.tags.round, .slice a.o m.mach.tags.owns.length a.oc, .int .i64 m.mach.space, .slice K m.marks.length k, .int .i64 m.hand]) := Lib.hid (by rw [hv1]; repeat' (first | with_reducible exact Blk.new_at _ _ _ (by simp) | with_reducible refine Blk.alloc ?_ _ | with_reducible refine Blk.drew ?_ | with_reducible refine Blk.far ?_ (by simp; omega) _))
  have lX : w.heap.size < v1.heap.size := KX.out.lt
  clear hv1
  refine (C1.out _).mono ?_; rintro r w1 ⟨rfl, hb1⟩
  have Y1 : Hid (Chg 0 0 v1 w1) := Lib.hid (Chg.of_ex hb1)
  have s1 : v1.heap.size ≤ w1.heap.size := Y1.out.size
  have Ew1 : Hid (Ex w w1) := Lib.hid (Ev1.out.chg Y1.out (by omega))
  clear hb1
  replace KX : Hid (Blk w1 (w.heap.size) 52 [.slice a.b m.mach.table.buckets.length a.bc, .slice a.f m.mach.table.frames.length a.fc, .slice a.l m.mach.cache.lines.length a.lc, .int .i64 m.mach.cache.hand, .int .i64 m.mach.tags.count, .int .i64 m.mach.tags.next, .int .i64 m.mach.tags.round, .slice a.o m.mach.tags.owns.length a.oc, .int .i64 m.mach.space, .slice K m.marks.length k, .int .i64 m.hand]) := Lib.hid (KX.out.chg Y1.out (by omega))
  obtain ⟨qX0, qX1, qX2, qX3, qX4, qX5, qX6, qX7, qX8, qX9, qX10⟩ := KX.out.c11
  have jX := KX.out.lt
  go_wp2_with fail
  refine (C2.out _).mono ?_; rintro r wq2 ⟨rfl, rfl⟩
  go_wp2
  go_ret
  exact ⟨ret_int HE.out.symm, Ew1.out⟩

set_option maxHeartbeats 2000000 in
theorem toMemory_c (m : MemD) (a : MA) (K : Option Addr) (k : Nat) (w : World) (hx : HasE w m a K) (hf : FewE m) :
    Calls Tryd.prog 13 #[.agg #[.slice a.b m.mach.table.buckets.length a.bc, .slice a.f m.mach.table.frames.length a.fc, .slice a.l m.mach.cache.lines.length a.lc, .int .i64 m.mach.cache.hand, .int .i64 m.mach.tags.count, .int .i64 m.mach.tags.next, .int .i64 m.mach.tags.round, .slice a.o m.mach.tags.owns.length a.oc, .int .i64 m.mach.space, .slice K m.marks.length k, .int .i64 m.hand]] w
    fun r w' => ∃ a' K' k', r = .returned (.agg #[.slice a'.b m.mach.table.buckets.length a'.bc, .slice a'.f m.mach.table.frames.length a'.fc, .slice a'.l m.mach.cache.lines.length a'.lc, .int .i64 m.mach.cache.hand, .int .i64 m.mach.tags.count, .int .i64 m.mach.tags.next, .int .i64 m.mach.tags.round, .slice a'.o m.mach.tags.owns.length a'.oc, .int .i64 m.mach.space, .slice K' m.marks.length k', .int .i64 m.hand]) ∧ FrE w' w.heap.size m a' K' k' ∧ Ex w w' := by
  have HX := Lib.hid hx
  have HF := Lib.hid hf
  clear hx hf
  go_enter Tryd.func13, Tryd.ntmps13
  go_wp2_with fail
  refine name_calls ?_; intro v1 hv1
  have X1 : Hid (Chg (0) (0) w v1) := Lib.hid (by rw [hv1]; repeat' (first | with_reducible exact Chg.refl _ _ _ | with_reducible refine Chg.alloc ?_ _ | with_reducible refine Chg.drew ?_ | with_reducible refine Chg.set ?_ (by omega) _))
  have t1 : w.heap.size ≤ v1.heap.size := X1.out.size
  have Ev1 : Hid (Ex w v1) := Lib.hid ((Ex.refl w).chg X1.out (by omega))
  have KX : Hid (Blk v1 (w.heap.size) 52 [.slice a.b m.mach.table.buckets.length a.bc, .slice a.f m.mach.table.frames.length a.fc, .slice a.l m.mach.cache.lines.length a.lc, .int .i64 m.mach.cache.hand, .int .i64 m.mach.tags.count, .int .i64 m.mach.tags.next, .int .i64 m.mach.tags.round, .slice a.o m.mach.tags.owns.length a.oc, .int .i64 m.mach.space, .slice K m.marks.length k, .int .i64 m.hand]) := Lib.hid (by rw [hv1]; repeat' (first | with_reducible exact Blk.new_at _ _ _ (by simp) | with_reducible refine Blk.alloc ?_ _ | with_reducible refine Blk.drew ?_ | with_reducible refine Blk.far ?_ (by simp; omega) _))
  have lX : w.heap.size < v1.heap.size := KX.out.lt
  have KR : Hid (Blk v1 (w.heap.size + 1) 56 [.slice none 0 0, .slice none 0 0, .slice none 0 0, .int .i64 0, .int .i64 0, .int .i64 0, .int .i64 0, .slice none 0 0, .int .i64 0, .slice none 0 0, .int .i64 0]) := Lib.hid (by rw [hv1]; exact (Blk.new_at _ _ _ (by simp)).alloc _)
  have lR : w.heap.size + 1 < v1.heap.size := KR.out.lt
  have KO : Hid (Blk v1 (w.heap.size + 1 + 1) 56 [.slice none 0 0, .slice none 0 0, .slice none 0 0, .int .i64 0, .int .i64 0, .int .i64 0, .int .i64 0, .slice none 0 0, .int .i64 0, .slice none 0 0, .int .i64 0]) := Lib.hid (by rw [hv1]; exact Blk.new_at _ _ _ (by simp))
  have lO : w.heap.size + 1 + 1 < v1.heap.size := KO.out.lt
  have DX := Lib.hid (HX.out.ex Ev1.out)
  clear hv1
  refine (toMachine_c m.mach a _ DX.out.m HF.out.m).mono ?_; rintro r w1 ⟨a1, rfl, hhm1, hb1⟩
  have Y1 : Hid (Chg 0 0 v1 w1) := Lib.hid (Chg.of_ex hb1)
  have s1 : v1.heap.size ≤ w1.heap.size := Y1.out.size
  have Ew1 : Hid (Ex w w1) := Lib.hid (Ev1.out.chg Y1.out (by omega))
  clear hb1
  replace KX : Hid (Blk w1 (w.heap.size) 52 [.slice a.b m.mach.table.buckets.length a.bc, .slice a.f m.mach.table.frames.length a.fc, .slice a.l m.mach.cache.lines.length a.lc, .int .i64 m.mach.cache.hand, .int .i64 m.mach.tags.count, .int .i64 m.mach.tags.next, .int .i64 m.mach.tags.round, .slice a.o m.mach.tags.owns.length a.oc, .int .i64 m.mach.space, .slice K m.marks.length k, .int .i64 m.hand]) := Lib.hid (KX.out.chg Y1.out (by omega))
  replace KR : Hid (Blk w1 (w.heap.size + 1) 56 [.slice none 0 0, .slice none 0 0, .slice none 0 0, .int .i64 0, .int .i64 0, .int .i64 0, .int .i64 0, .slice none 0 0, .int .i64 0, .slice none 0 0, .int .i64 0]) := Lib.hid (KR.out.chg Y1.out (by omega))
  replace KO : Hid (Blk w1 (w.heap.size + 1 + 1) 56 [.slice none 0 0, .slice none 0 0, .slice none 0 0, .int .i64 0, .int .i64 0, .int .i64 0, .int .i64 0, .slice none 0 0, .int .i64 0, .slice none 0 0, .int .i64 0]) := Lib.hid (KO.out.chg Y1.out (by omega))
  replace DX := Lib.hid (HX.out.ex Ew1.out)
  have HHM1 := Lib.hid hhm1; clear hhm1
  obtain ⟨qX0, qX1, qX2, qX3, qX4, qX5, qX6, qX7, qX8, qX9, qX10⟩ := KX.out.c11
  have jX := KX.out.lt
  obtain ⟨qR0, qR1, qR2, qR3, qR4, qR5, qR6, qR7, qR8, qR9, qR10⟩ := KR.out.c11
  have jR := KR.out.lt
  have zR := KR.out.frozen
  obtain ⟨qO0, qO1, qO2, qO3, qO4, qO5, qO6, qO7, qO8, qO9, qO10⟩ := KO.out.c11
  have jO := KO.out.lt
  have zO := KO.out.frozen
  go_wp2_with fail
  refine name_calls ?_; intro v2 hv2
  have X2 : Hid (Chg (w.heap.size + 1 + 1) (w.heap.size + 1 + 1 + 1) w1 v2) := Lib.hid (by rw [hv2]; repeat' (first | with_reducible exact Chg.refl _ _ _ | with_reducible refine Chg.alloc ?_ _ | with_reducible refine Chg.drew ?_ | with_reducible refine Chg.set ?_ (by omega) _))
  have t2 : w1.heap.size ≤ v2.heap.size := X2.out.size
  have Ev2 : Hid (Ex w v2) := Lib.hid (Ew1.out.chg X2.out (by omega))
  clear qX0 qX1 qX2 qX3 qX4 qX5 qX6 qX7 qX8 qX9 qX10 jX
  clear qR0 qR1 qR2 qR3 qR4 qR5 qR6 qR7 qR8 qR9 qR10 jR zR
  clear qO0 qO1 qO2 qO3 qO4 qO5 qO6 qO7 qO8 qO9 qO10 jO zO
  replace KO : Hid (Blk v2 (w.heap.size + 1 + 1) 56 [.slice a1.b m.mach.table.buckets.length a1.bc, .slice a1.f m.mach.table.frames.length a1.fc, .slice a1.l m.mach.cache.lines.length a1.lc, .int .i64 m.mach.cache.hand, .int .i64 m.mach.tags.count, .int .i64 m.mach.tags.next, .int .i64 m.mach.tags.round, .slice a1.o m.mach.tags.owns.length a1.oc, .int .i64 m.mach.space, .slice none 0 0, .int .i64 0]) := Lib.hid (by rw [hv2]; exact ((((((((KO.out.set 0 _).set 1 _).set 2 _).set 3 _).set 4 _).set 5 _).set 6 _).set 7 _).set 8 _)
  replace KX : Hid (Blk v2 (w.heap.size) 52 [.slice a.b m.mach.table.buckets.length a.bc, .slice a.f m.mach.table.frames.length a.fc, .slice a.l m.mach.cache.lines.length a.lc, .int .i64 m.mach.cache.hand, .int .i64 m.mach.tags.count, .int .i64 m.mach.tags.next, .int .i64 m.mach.tags.round, .slice a.o m.mach.tags.owns.length a.oc, .int .i64 m.mach.space, .slice K m.marks.length k, .int .i64 m.hand]) := Lib.hid (KX.out.chg X2.out (by omega))
  replace KR : Hid (Blk v2 (w.heap.size + 1) 56 [.slice none 0 0, .slice none 0 0, .slice none 0 0, .int .i64 0, .int .i64 0, .int .i64 0, .int .i64 0, .slice none 0 0, .int .i64 0, .slice none 0 0, .int .i64 0]) := Lib.hid (KR.out.chg X2.out (by omega))
  replace DX := Lib.hid (HX.out.ex Ev2.out)
  clear hv2
  refine (toBoolS_c K k m.marks _ DX.out.k HF.out.k).mono ?_; rintro r w2 ⟨A2, c2, rfl, hf2, hb2⟩
  have Y2 : Hid (Chg 0 0 v2 w2) := Lib.hid (Chg.of_ex hb2)
  have s2 : v2.heap.size ≤ w2.heap.size := Y2.out.size
  have Ew2 : Hid (Ex w w2) := Lib.hid (Ev2.out.chg Y2.out (by omega))
  clear hb2
  replace KX : Hid (Blk w2 (w.heap.size) 52 [.slice a.b m.mach.table.buckets.length a.bc, .slice a.f m.mach.table.frames.length a.fc, .slice a.l m.mach.cache.lines.length a.lc, .int .i64 m.mach.cache.hand, .int .i64 m.mach.tags.count, .int .i64 m.mach.tags.next, .int .i64 m.mach.tags.round, .slice a.o m.mach.tags.owns.length a.oc, .int .i64 m.mach.space, .slice K m.marks.length k, .int .i64 m.hand]) := Lib.hid (KX.out.chg Y2.out (by omega))
  replace KR : Hid (Blk w2 (w.heap.size + 1) 56 [.slice none 0 0, .slice none 0 0, .slice none 0 0, .int .i64 0, .int .i64 0, .int .i64 0, .int .i64 0, .slice none 0 0, .int .i64 0, .slice none 0 0, .int .i64 0]) := Lib.hid (KR.out.chg Y2.out (by omega))
  replace KO : Hid (Blk w2 (w.heap.size + 1 + 1) 56 [.slice a1.b m.mach.table.buckets.length a1.bc, .slice a1.f m.mach.table.frames.length a1.fc, .slice a1.l m.mach.cache.lines.length a1.lc, .int .i64 m.mach.cache.hand, .int .i64 m.mach.tags.count, .int .i64 m.mach.tags.next, .int .i64 m.mach.tags.round, .slice a1.o m.mach.tags.owns.length a1.oc, .int .i64 m.mach.space, .slice none 0 0, .int .i64 0]) := Lib.hid (KO.out.chg Y2.out (by omega))
  replace DX := Lib.hid (HX.out.ex Ew2.out)
  have HF2 := Lib.hid hf2; clear hf2
  have WHF2 := Lib.hid HF2.out.row
  obtain ⟨qX0, qX1, qX2, qX3, qX4, qX5, qX6, qX7, qX8, qX9, qX10⟩ := KX.out.c11
  have jX := KX.out.lt
  obtain ⟨qR0, qR1, qR2, qR3, qR4, qR5, qR6, qR7, qR8, qR9, qR10⟩ := KR.out.c11
  have jR := KR.out.lt
  have zR := KR.out.frozen
  obtain ⟨qO0, qO1, qO2, qO3, qO4, qO5, qO6, qO7, qO8, qO9, qO10⟩ := KO.out.c11
  have jO := KO.out.lt
  have zO := KO.out.frozen
  have HM2 : Hid (FrM w2 v1.heap.size m.mach a1) := Lib.hid ((HHM1.out.chg X2.out (by omega)).ex Y2.out.ex_)
  go_wp2
  exact bodyPost_ret (v := .agg #[.slice a1.b m.mach.table.buckets.length a1.bc, .slice a1.f m.mach.table.frames.length a1.fc, .slice a1.l m.mach.cache.lines.length a1.lc, .int .i64 m.mach.cache.hand, .int .i64 m.mach.tags.count, .int .i64 m.mach.tags.next, .int .i64 m.mach.tags.round, .slice a1.o m.mach.tags.owns.length a1.oc, .int .i64 m.mach.space, .slice A2 m.marks.length c2, .int .i64 m.hand]) (by first | (simp [results, Tryd.results13, go_sem, qR0, qR1]; done) | (simp [results, Tryd.results13, go_sem, qR0, qR1, qR2, qR3, qR4, qR5, qR6, qR7, qR8, qR9, qR10]; done)) rfl
    ⟨a1, A2, c2, rfl, ⟨FrM.mono (B := v1.heap.size) (by repeat' (first | with_reducible exact HM2.out | with_reducible refine FrM.put ?_ (by omega) _)) (by omega), Fr.mono (B := v2.heap.size) (by repeat' (first | with_reducible exact HF2.out | with_reducible refine Fr.alloc ?_ _ | with_reducible refine Fr.put ?_ (fun b hb => by have := WHF2.out b hb; omega) _)) (by omega)⟩, (by repeat' (first | with_reducible exact Ew2.out | with_reducible refine Ex.alloc ?_ _ | with_reducible refine Ex.drew ?_ | with_reducible refine Ex.put ?_ (by omega) _))⟩

set_option maxHeartbeats 1000000 in
theorem eqMemory_self_c (m : MemD) (a b : MA) (K L : Option Addr) (k l : Nat) (w : World) (hx : HasE w m a K) (hy : HasE w m b L) (hf : FewE m) :
    Calls Tryd.prog 15 #[.agg #[.slice a.b m.mach.table.buckets.length a.bc, .slice a.f m.mach.table.frames.length a.fc, .slice a.l m.mach.cache.lines.length a.lc, .int .i64 m.mach.cache.hand, .int .i64 m.mach.tags.count, .int .i64 m.mach.tags.next, .int .i64 m.mach.tags.round, .slice a.o m.mach.tags.owns.length a.oc, .int .i64 m.mach.space, .slice K m.marks.length k, .int .i64 m.hand], .agg #[.slice b.b m.mach.table.buckets.length b.bc, .slice b.f m.mach.table.frames.length b.fc, .slice b.l m.mach.cache.lines.length b.lc, .int .i64 m.mach.cache.hand, .int .i64 m.mach.tags.count, .int .i64 m.mach.tags.next, .int .i64 m.mach.tags.round, .slice b.o m.mach.tags.owns.length b.oc, .int .i64 m.mach.space, .slice L m.marks.length l, .int .i64 m.hand]] w fun r w' => r = .returned (.bool true) ∧ Ex w w' := by
  have HX := Lib.hid hx
  have HY := Lib.hid hy
  have HF := Lib.hid hf
  have hsp : (m.hand != m.hand) = false := by simp
  clear hx hy hf
  go_enter Tryd.func15, Tryd.ntmps15
  go_wp2_with fail
  refine name_calls ?_; intro v1 hv1
  have X1 : Hid (Chg (0) (0) w v1) := Lib.hid (by rw [hv1]; repeat' (first | with_reducible exact Chg.refl _ _ _ | with_reducible refine Chg.alloc ?_ _ | with_reducible refine Chg.drew ?_ | with_reducible refine Chg.set ?_ (by omega) _))
  have t1 : w.heap.size ≤ v1.heap.size := X1.out.size
  have Ev1 : Hid (Ex w v1) := Lib.hid ((Ex.refl w).chg X1.out (by omega))
  have KX : Hid (Blk v1 (w.heap.size) 56 [.slice a.b m.mach.table.buckets.length a.bc, .slice a.f m.mach.table.frames.length a.fc, .slice a.l m.mach.cache.lines.length a.lc, .int .i64 m.mach.cache.hand, .int .i64 m.mach.tags.count, .int .i64 m.mach.tags.next, .int .i64 m.mach.tags.round, .slice a.o m.mach.tags.owns.length a.oc, .int .i64 m.mach.space, .slice K m.marks.length k, .int .i64 m.hand]) := Lib.hid (by rw [hv1]; repeat' (first | with_reducible exact Blk.new_at _ _ _ (by simp) | with_reducible refine Blk.alloc ?_ _ | with_reducible refine Blk.drew ?_ | with_reducible refine Blk.far ?_ (by simp; omega) _))
  have lX : w.heap.size < v1.heap.size := KX.out.lt
  have KY : Hid (Blk v1 (w.heap.size + 1) 56 [.slice b.b m.mach.table.buckets.length b.bc, .slice b.f m.mach.table.frames.length b.fc, .slice b.l m.mach.cache.lines.length b.lc, .int .i64 m.mach.cache.hand, .int .i64 m.mach.tags.count, .int .i64 m.mach.tags.next, .int .i64 m.mach.tags.round, .slice b.o m.mach.tags.owns.length b.oc, .int .i64 m.mach.space, .slice L m.marks.length l, .int .i64 m.hand]) := Lib.hid (by rw [hv1]; repeat' (first | with_reducible exact Blk.new_at _ _ _ (by simp) | with_reducible refine Blk.alloc ?_ _ | with_reducible refine Blk.drew ?_ | with_reducible refine Blk.far ?_ (by simp; omega) _))
  have lY : w.heap.size + 1 < v1.heap.size := KY.out.lt
  have DX := Lib.hid (HX.out.ex Ev1.out)
  have DY := Lib.hid (HY.out.ex Ev1.out)
  clear hv1
  refine (eqMachine_self_c m.mach a b _ DX.out.m DY.out.m HF.out.m).mono ?_; rintro r w1 ⟨rfl, hb1⟩
  have Y1 : Hid (Chg 0 0 v1 w1) := Lib.hid (Chg.of_ex hb1)
  have s1 : v1.heap.size ≤ w1.heap.size := Y1.out.size
  have Ew1 : Hid (Ex w w1) := Lib.hid (Ev1.out.chg Y1.out (by omega))
  clear hb1
  replace KX : Hid (Blk w1 (w.heap.size) 56 [.slice a.b m.mach.table.buckets.length a.bc, .slice a.f m.mach.table.frames.length a.fc, .slice a.l m.mach.cache.lines.length a.lc, .int .i64 m.mach.cache.hand, .int .i64 m.mach.tags.count, .int .i64 m.mach.tags.next, .int .i64 m.mach.tags.round, .slice a.o m.mach.tags.owns.length a.oc, .int .i64 m.mach.space, .slice K m.marks.length k, .int .i64 m.hand]) := Lib.hid (KX.out.chg Y1.out (by omega))
  replace KY : Hid (Blk w1 (w.heap.size + 1) 56 [.slice b.b m.mach.table.buckets.length b.bc, .slice b.f m.mach.table.frames.length b.fc, .slice b.l m.mach.cache.lines.length b.lc, .int .i64 m.mach.cache.hand, .int .i64 m.mach.tags.count, .int .i64 m.mach.tags.next, .int .i64 m.mach.tags.round, .slice b.o m.mach.tags.owns.length b.oc, .int .i64 m.mach.space, .slice L m.marks.length l, .int .i64 m.hand]) := Lib.hid (KY.out.chg Y1.out (by omega))
  replace DX := Lib.hid (HX.out.ex Ew1.out)
  replace DY := Lib.hid (HY.out.ex Ew1.out)
  obtain ⟨qX0, qX1, qX2, qX3, qX4, qX5, qX6, qX7, qX8, qX9, qX10⟩ := KX.out.c11
  have jX := KX.out.lt
  obtain ⟨qY0, qY1, qY2, qY3, qY4, qY5, qY6, qY7, qY8, qY9, qY10⟩ := KY.out.c11
  have jY := KY.out.lt
  go_wp2_with fail
  refine name_calls ?_; intro v2 hv2
  have X2 : Hid (Chg (0) (0) w1 v2) := Lib.hid (by rw [hv2]; repeat' (first | with_reducible exact Chg.refl _ _ _ | with_reducible refine Chg.alloc ?_ _ | with_reducible refine Chg.drew ?_ | with_reducible refine Chg.set ?_ (by omega) _))
  have t2 : w1.heap.size ≤ v2.heap.size := X2.out.size
  have Ev2 : Hid (Ex w v2) := Lib.hid (Ew1.out.chg X2.out (by omega))
  clear qX0 qX1 qX2 qX3 qX4 qX5 qX6 qX7 qX8 qX9 qX10 jX
  clear qY0 qY1 qY2 qY3 qY4 qY5 qY6 qY7 qY8 qY9 qY10 jY
  replace KX : Hid (Blk v2 (w.heap.size) 56 [.slice a.b m.mach.table.buckets.length a.bc, .slice a.f m.mach.table.frames.length a.fc, .slice a.l m.mach.cache.lines.length a.lc, .int .i64 m.mach.cache.hand, .int .i64 m.mach.tags.count, .int .i64 m.mach.tags.next, .int .i64 m.mach.tags.round, .slice a.o m.mach.tags.owns.length a.oc, .int .i64 m.mach.space, .slice K m.marks.length k, .int .i64 m.hand]) := Lib.hid (KX.out.chg X2.out (by omega))
  replace KY : Hid (Blk v2 (w.heap.size + 1) 56 [.slice b.b m.mach.table.buckets.length b.bc, .slice b.f m.mach.table.frames.length b.fc, .slice b.l m.mach.cache.lines.length b.lc, .int .i64 m.mach.cache.hand, .int .i64 m.mach.tags.count, .int .i64 m.mach.tags.next, .int .i64 m.mach.tags.round, .slice b.o m.mach.tags.owns.length b.oc, .int .i64 m.mach.space, .slice L m.marks.length l, .int .i64 m.hand]) := Lib.hid (KY.out.chg X2.out (by omega))
  replace DX := Lib.hid (HX.out.ex Ev2.out)
  replace DY := Lib.hid (HY.out.ex Ev2.out)
  clear hv2
  refine (eqBoolS_self_c K L k l m.marks _ DX.out.k DY.out.k HF.out.k).mono ?_; rintro r w2 ⟨rfl, hb2⟩
  have Y2 : Hid (Chg 0 0 v2 w2) := Lib.hid (Chg.of_ex hb2)
  have s2 : v2.heap.size ≤ w2.heap.size := Y2.out.size
  have Ew2 : Hid (Ex w w2) := Lib.hid (Ev2.out.chg Y2.out (by omega))
  clear hb2
  replace KX : Hid (Blk w2 (w.heap.size) 56 [.slice a.b m.mach.table.buckets.length a.bc, .slice a.f m.mach.table.frames.length a.fc, .slice a.l m.mach.cache.lines.length a.lc, .int .i64 m.mach.cache.hand, .int .i64 m.mach.tags.count, .int .i64 m.mach.tags.next, .int .i64 m.mach.tags.round, .slice a.o m.mach.tags.owns.length a.oc, .int .i64 m.mach.space, .slice K m.marks.length k, .int .i64 m.hand]) := Lib.hid (KX.out.chg Y2.out (by omega))
  replace KY : Hid (Blk w2 (w.heap.size + 1) 56 [.slice b.b m.mach.table.buckets.length b.bc, .slice b.f m.mach.table.frames.length b.fc, .slice b.l m.mach.cache.lines.length b.lc, .int .i64 m.mach.cache.hand, .int .i64 m.mach.tags.count, .int .i64 m.mach.tags.next, .int .i64 m.mach.tags.round, .slice b.o m.mach.tags.owns.length b.oc, .int .i64 m.mach.space, .slice L m.marks.length l, .int .i64 m.hand]) := Lib.hid (KY.out.chg Y2.out (by omega))
  replace DX := Lib.hid (HX.out.ex Ew2.out)
  replace DY := Lib.hid (HY.out.ex Ew2.out)
  obtain ⟨qX0, qX1, qX2, qX3, qX4, qX5, qX6, qX7, qX8, qX9, qX10⟩ := KX.out.c11
  have jX := KX.out.lt
  obtain ⟨qY0, qY1, qY2, qY3, qY4, qY5, qY6, qY7, qY8, qY9, qY10⟩ := KY.out.c11
  have jY := KY.out.lt
  go_wp2
  go_ret
  exact ⟨rfl, Ew2.out⟩

end Go.Proofs.YtihlaecbdlgbiaaDoor
