/- NewSystem of both sides; marking a system without notes. -/
import Derived.Test.YtkoegcalfibinaaDoorYt
import Derived.Test.YtkoegcalfibinaaDoorNt
import Derived.Test.YtkoegcalfibinaaDoorMm
namespace Go.Proofs.YtkoegcalfibinaaDoor
open Go.ChangeShapes Go.WideShapes Go.ChangeAt Go.RowKit
open Rec (sz cs)
set_option linter.unusedVariables false
set_option maxRecDepth 100000

def noSys : SysD := ⟨noTable, []⟩
def newSys (f b c : Int) : SysD × Bool := if (newTable f b).2 = true ∧ 1 ≤ c ∧ c ≤ 4 then (⟨(newTable f b).1, List.replicate c.toNat ⟨[], []⟩⟩, true) else (noSys, false)
theorem newSys_few (f b c : Int) : (newSys f b c).1.table.buckets.length ≤ 16 ∧ (newSys f b c).1.table.frames.length ≤ 16 ∧ (newSys f b c).1.cpus.length ≤ 16 := by
  unfold newSys
  split
  · have h1 := newTable_few f b
    exact ⟨h1.1, h1.2, by simp; omega⟩
  · simp [noSys, noTable]

theorem rep_get {α : Type} {n k : Nat} {x y : α} (h : (List.replicate n y)[k]? = some x) : x = y := by
  rw [List.getElem?_replicate] at h
  split at h
  · injection h with h; exact h.symm
  · cases h
theorem Chg.any {w w' : World} {lo hi : Nat} (h : Ex w w') : Chg lo hi w w' := ⟨h.os, h.tape, h.output, h.size, fun _ hi _ => h.block hi⟩
def nilC : CpuR := ⟨none, 0, 0, none, 0, 0⟩
theorem HasC.nil {w : World} {A : Option Addr} {n : Nat} (h : Rd w A (List.replicate n nilC)) : HasC w A (List.replicate n ⟨[], []⟩) := by
  refine ⟨List.replicate n nilC, by simp, h, fun i x r h1 h2 => ?_⟩
  have e1 : x = ⟨[], []⟩ := rep_get h1
  have e2 : r = nilC := rep_get h2
  subst e1
  subst e2
  exact ⟨rfl, rfl, (Fr.none_ 162 _ 0 _).rd, (Fr.none_ 162 _ 0 _).rd⟩

/-- A system whose processors have no notes. -/
structure HasN (w : World) (s : SysD) (a : SA) : Prop where
  b : Rd w a.b s.table.buckets
  f : Rd w a.f s.table.frames
  q : Rd w a.q (List.replicate s.cpus.length nilC)
  e : s.cpus = List.replicate s.cpus.length ⟨[], []⟩
theorem HasN.has {w : World} {s : SysD} {a : SA} (h : HasN w s a) : HasS w s a := ⟨h.b, h.f, by rw [h.e]; exact HasC.nil h.q⟩
theorem HasN.ex {w w' : World} {s : SysD} {a : SA} (h : HasN w s a) (k : Ex w w') : HasN w' s a := ⟨h.b.ex k, h.f.ex k, h.q.ex k, h.e⟩
structure FrN (w : World) (B : Nat) (s : SysD) (a : SA) : Prop where
  b : Fr 3 w B a.b a.bc s.table.buckets
  f : Fr 99 w B a.f a.fc s.table.frames
  q : Fr 123 w B a.q a.qc (List.replicate s.cpus.length nilC)
  e : s.cpus = List.replicate s.cpus.length ⟨[], []⟩
theorem FrN.has {w : World} {B : Nat} {s : SysD} {a : SA} (h : FrN w B s a) : HasN w s a := ⟨h.b.rd, h.f.rd, h.q.rd, h.e⟩
theorem FrN.after {w0 w w' : World} {B lo hi : Nat} {s : SysD} {a : SA} (h0 : FrN w0 B s a) (h : Ex w0 w) (k : Chg lo hi w w') (hlo : w0.heap.size ≤ lo) : FrN w' B s a :=
  ⟨(h0.b.ex h).chg k (l := B) (u := w0.heap.size) h0.b.row (by omega), (h0.f.ex h).chg k (l := B) (u := w0.heap.size) h0.f.row (by omega), (h0.q.ex h).chg k (l := B) (u := w0.heap.size) h0.q.row (by omega), h0.e⟩

/-- A new system: its rows are the call's own, and lie one behind the other. -/
def MadeSys (q : SysD × Bool) (w : World) (r : Ending) (w' : World) : Prop := ∃ (a : SA) (m1 m2 : Nat), r = .returned (.tuple #[.agg #[.slice a.b q.1.table.buckets.length a.bc, .slice a.f q.1.table.frames.length a.fc, .slice a.q q.1.cpus.length a.qc], .bool q.2]) ∧ Fr 3 w' w.heap.size a.b a.bc q.1.table.buckets ∧ Fr 99 w' m1 a.f a.fc q.1.table.frames ∧ Fr 123 w' m2 a.q a.qc (List.replicate q.1.cpus.length nilC) ∧ q.1.cpus = List.replicate q.1.cpus.length ⟨[], []⟩ ∧
  ((∀ x, rowOf a.b a.bc = some x → x < m1) ∧ (∀ x, rowOf a.f a.fc = some x → x < m2)) ∧ (w.heap.size ≤ m1 ∧ m1 ≤ m2 ∧ m2 ≤ w'.heap.size) ∧ Ex w w'

theorem markNoteS_nil (k0 : Int) (w : World) (hk0 : 0 ≤ k0) (hk1 : k0 ≤ 1000000000) : Calls Tryd.prog 81 #[.slice none 0 0, .int .i64 k0] w fun r w' => r = .returned (.int .i64 k0) ∧ Ex w w' :=
  (markNoteS_c none 0 0 [] k0 w (Fr.none_ _ _ _ _) (by simp) hk0 hk1).mono fun r w' h => ⟨by simpa using h.1, Ex.of_grown (Ex.refl w) h.2.2 (by simp [rowOf])⟩
theorem heldNoteS_nil (k0 : Int) (w : World) (hk0 : 0 ≤ k0) (hk1 : k0 ≤ 1000000000) : Calls Tryd.prog 84 #[.slice none 0 0, .int .i64 k0] w fun r w' => r = .returned (.int .i64 k0) ∧ w = w' :=
  (heldNoteS_c none 0 0 k0 w (Fr.none_ 162 w 0 none).rd (by simp) hk0 hk1).mono fun r w' h => ⟨by simpa using h.1, h.2⟩

set_option maxHeartbeats 1000000 in
theorem markCpuS_c (A : Option Addr) (c n : Nat) (k0 : Int) (w : World) (hx : Rd w A (List.replicate n nilC)) (hn : n ≤ 1048576) (hk0 : 0 ≤ k0) (hk1 : k0 ≤ 1000000000) :
    Calls Tryd.prog 34 #[.slice A n c, .int .i64 k0] w fun r w' => r = .returned (.int .i64 k0) ∧ Ex w w' := by
  have C1 := Lib.hid (fun w => markNoteS_nil k0 w hk0 hk1)
  have H1 := Lib.hid hx
  clear hx
  go_enter Tryd.func34, Tryd.ntmps34
  go_wp2
  go_loopw [1, 5] (fun q i wr => ∃ k : Nat, k ≤ n ∧ i = .int .i64 k ∧ q = .int .i64 k0 ∧ Ex w wr) (fun _ i _ => n - (intOf i).toNat)
  case atStart => exact ⟨0, Nat.zero_le _, rfl, rfl, Ex.refl _⟩
  case round =>
    obtain ⟨k, hk, rfl, rfl, hex⟩ := hrel
    have HE := Lib.hid hex
    clear hex
    by_cases hlt : k < n
    · obtain ⟨b1, o1, x, rfl, hb1, hxk, h0, h1⟩ := Rd.cpu (H1.out.ex HE.out) (k := k) (by simpa using hlt)
      have e : x = nilC := rep_get hxk
      subst e
      simp only [nilC] at h0 h1
      clear hxk
      go_wp2_with fail
      refine (C1.out _).mono ?_
      rintro r w1 ⟨rfl, he1⟩
      have HE1 := Lib.hid (HE.out.trans he1)
      clear h0 h1 he1
      obtain ⟨b2, o2, x, e2, hb2, hxk, h0, h1⟩ := Rd.cpu (H1.out.ex HE1.out) (k := k) (by simpa using hlt)
      cases e2
      have e : x = nilC := rep_get hxk
      subst e
      simp only [nilC] at h0 h1
      clear hxk
      go_wp2_with fail
      refine (C1.out _).mono ?_
      rintro r w2 ⟨rfl, he2⟩
      have HE2 := Lib.hid (HE1.out.trans he2)
      clear h0 h1 he2
      go_wp2
      go_roundw
      case rel => exact ⟨k + 1, by omega, by go_num, rfl, HE2.out⟩
      case measure => simp [intOf]; omega
    · obtain rfl : k = n := by omega
      go_wp2
      go_ret
      exact ⟨rfl, HE.out⟩

set_option maxHeartbeats 1000000 in
theorem heldCpuS_c (A : Option Addr) (c n : Nat) (k0 : Int) (w : World) (hx : Rd w A (List.replicate n nilC)) (hn : n ≤ 1048576) (hk0 : 0 ≤ k0) (hk1 : k0 ≤ 1000000000) :
    Calls Tryd.prog 36 #[.slice A n c, .int .i64 k0] w fun r w' => r = .returned (.int .i64 k0) ∧ w = w' := by
  have C1 := Lib.hid (fun w => heldNoteS_nil k0 w hk0 hk1)
  have H1 := Lib.hid hx
  have hk2 : ¬ k0 < 0 := by omega
  clear hx
  go_enter Tryd.func36, Tryd.ntmps36
  go_wp2
  go_loop [1, 5] (fun q i => ∃ k : Nat, k ≤ n ∧ i = .int .i64 k ∧ q = .int .i64 k0) (fun _ i => n - (intOf i).toNat)
  case atStart => exact ⟨0, Nat.zero_le _, rfl, rfl⟩
  case round =>
    obtain ⟨k, hk, rfl, rfl⟩ := hrel
    by_cases hlt : k < n
    · obtain ⟨b1, o1, x, rfl, hb1, hxk, h0, h1⟩ := Rd.cpu H1.out (k := k) (by simpa using hlt)
      have e : x = nilC := rep_get hxk
      subst e
      simp only [nilC] at h0 h1
      clear hxk
      go_wp2_with fail
      refine (C1.out _).mono ?_
      rintro r w1 ⟨rfl, rfl⟩
      go_wp2_with fail
      refine (C1.out _).mono ?_
      rintro r w2 ⟨rfl, rfl⟩
      go_wp2
      go_round
      case rel => exact ⟨k + 1, by omega, by go_num, rfl⟩
      case measure => simp [intOf]; omega
    · obtain rfl : k = n := by omega
      go_wp2
      go_ret
      exact ⟨rfl, rfl⟩

/-- The marks in a system's slices. -/
structure MarkedS (w : World) (s : SysD) (a : SA) : Prop where
  b : Rd w a.b (markL mkInt 1 1 s.table.buckets.length)
  f : Rd w a.f (markL mkFrame 5 (1 + (s.table.buckets.length : Int)) s.table.frames.length)
  q : Rd w a.q (List.replicate s.cpus.length nilC)
theorem MarkedS.ex {w w' : World} {s : SysD} {a : SA} (h : MarkedS w s a) (k : Ex w w') : MarkedS w' s a := ⟨h.b.ex k, h.f.ex k, h.q.ex k⟩

set_option maxHeartbeats 2000000 in
theorem markSys_c (s : SysD) (a : SA) (lo m1 m2 : Nat) (K1 : Int) (w : World) (hb : Fr 3 w lo a.b a.bc s.table.buckets) (hf : Fr 99 w lo a.f a.fc s.table.frames) (hq : Fr 123 w m2 a.q a.qc (List.replicate s.cpus.length nilC))
    (hrb : ∀ x, rowOf a.b a.bc = some x → lo ≤ x ∧ x < m1) (hrf : ∀ x, rowOf a.f a.fc = some x → m1 ≤ x ∧ x < m2)
    (h1 : lo ≤ m1) (h2 : m1 ≤ m2) (hh : m2 ≤ w.heap.size) (n1 : s.table.buckets.length ≤ 16) (n2 : s.table.frames.length ≤ 16) (n3 : s.cpus.length ≤ 16)
    (e1 : K1 = 1 + (s.table.buckets.length : Int) + 5 * (s.table.frames.length : Int)) :
    Calls Tryd.prog 11 #[.agg #[.slice a.b s.table.buckets.length a.bc, .slice a.f s.table.frames.length a.fc, .slice a.q s.cpus.length a.qc], .int .i64 1] w
    fun r w' => r = .returned (.int .i64 K1) ∧ MarkedS w' s a ∧ Chg lo m2 w w' := by
  have C1 := Lib.hid (fun w h1' h2' => markTable_c s.table a.b a.bc a.f a.fc lo m1 m2 1 w lo h1' h2' hrb hrf h1 h2 (by omega) (by omega) (by omega) (by omega))
  rw [← e1] at C1
  have C2 := Lib.hid (fun w h => markCpuS_c a.q a.qc s.cpus.length K1 w h (by omega) (by omega) (by omega))
  have HB := Lib.hid hb
  have HF := Lib.hid hf
  have HQ := Lib.hid hq
  clear hb hf hq hrb hrf e1
  go_enter Tryd.func11, Tryd.ntmps11
  go_wp2_with fail
  refine (C1.out _ (HB.out.alloc _) (HF.out.alloc _)).mono ?_
  rintro r w1 ⟨rfl, hb1, hf1, hc1⟩
  have HB1 := Lib.hid hb1
  have HF1 := Lib.hid hf1
  have Y1 : Hid (Chg lo m2 w w1) := Lib.hid (((Chg.refl lo m2 w).alloc _).trans hc1)
  have HQ1 : Hid (Fr 123 w1 m2 a.q a.qc (List.replicate s.cpus.length nilC)) := Lib.hid ((HQ.out.alloc _).chg hc1 HQ.out.row (by omega))
  have KX1 : Hid (Blk w1 w.heap.size 28 [.slice a.b s.table.buckets.length a.bc, .slice a.f s.table.frames.length a.fc, .slice a.q s.cpus.length a.qc]) := Lib.hid ((Blk.new w _ _).chg hc1 (by omega))
  obtain ⟨q0, q1, q2⟩ := KX1.out.c3
  have jx := KX1.out.lt
  clear hb1 hf1 hc1
  go_wp2_with fail
  refine (C2.out _ HQ1.out.rd).mono ?_
  rintro r w2 ⟨rfl, he2⟩
  have HM : Hid (MarkedS w2 s a) := Lib.hid ⟨(HB1.out.ex he2).rd, (HF1.out.ex he2).rd, (HQ1.out.ex he2).rd⟩
  have Y2 : Hid (Chg lo m2 w w2) := Lib.hid (Y1.out.trans (Chg.any he2))
  clear q0 q1 q2 jx he2
  go_wp2
  go_ret
  exact ⟨rfl, HM.out, Y2.out⟩

set_option maxHeartbeats 2000000 in
theorem heldSys_c (s : SysD) (a : SA) (K1 : Int) (w : World) (hm : MarkedS w s a) (n1 : s.table.buckets.length ≤ 16) (n2 : s.table.frames.length ≤ 16) (n3 : s.cpus.length ≤ 16)
    (e1 : K1 = 1 + (s.table.buckets.length : Int) + 5 * (s.table.frames.length : Int)) :
    Calls Tryd.prog 12 #[.agg #[.slice a.b s.table.buckets.length a.bc, .slice a.f s.table.frames.length a.fc, .slice a.q s.cpus.length a.qc], .int .i64 1] w
    fun r w' => r = .returned (.int .i64 K1) ∧ Ex w w' := by
  have C1 := Lib.hid (fun w h1' h2' => heldTable_c a.b a.bc s.table.buckets.length a.f a.fc s.table.frames.length 1 w h1' h2' (by omega) (by omega) (by omega) (by omega))
  rw [← e1] at C1
  have C2 := Lib.hid (fun w h => heldCpuS_c a.q a.qc s.cpus.length K1 w h (by omega) (by omega) (by omega))
  have HM := Lib.hid hm
  have p1 : ¬ K1 < 0 := by omega
  clear hm e1
  go_enter Tryd.func12, Tryd.ntmps12
  go_wp2_with fail
  refine name_calls ?_; intro v1 hv1
  have X1 : Hid (Chg (0) (0) w v1) := Lib.hid (by rw [hv1]; repeat' (first | with_reducible exact Chg.refl _ _ _ | with_reducible refine Chg.alloc ?_ _ | with_reducible refine Chg.drew ?_ | with_reducible refine Chg.set ?_ (by omega) _))
  have t1 : w.heap.size ≤ v1.heap.size := X1.out.size
  have Ev1 : Hid (Ex w v1) := Lib.hid ((Ex.refl w).chg X1.out (by omega))
  have KX : Hid (Blk v1 (w.heap.size) 28 [.slice a.b s.table.buckets.length a.bc, .slice a.f s.table.frames.length a.fc, .slice a.q s.cpus.length a.qc]) := Lib.hid (by rw [hv1]; repeat' (first | with_reducible exact Blk.new_at _ _ _ (by simp) | with_reducible refine Blk.alloc ?_ _ | with_reducible refine Blk.drew ?_ | with_reducible refine Blk.far ?_ (by simp; omega) _))
  have lX : w.heap.size < v1.heap.size := KX.out.lt
  have DX := Lib.hid (HM.out.ex Ev1.out)
  clear hv1
  refine (C1.out _ DX.out.b DX.out.f).mono ?_; rintro r w1 ⟨rfl, hb1⟩
  have Y1 : Hid (Chg 0 0 v1 w1) := Lib.hid (Chg.of_ex hb1)
  have s1 : v1.heap.size ≤ w1.heap.size := Y1.out.size
  have Ew1 : Hid (Ex w w1) := Lib.hid (Ev1.out.chg Y1.out (by omega))
  clear hb1
  replace KX : Hid (Blk w1 (w.heap.size) 28 [.slice a.b s.table.buckets.length a.bc, .slice a.f s.table.frames.length a.fc, .slice a.q s.cpus.length a.qc]) := Lib.hid (KX.out.chg Y1.out (by omega))
  replace DX := Lib.hid (HM.out.ex Ew1.out)
  obtain ⟨qX0, qX1, qX2⟩ := KX.out.c3
  have jX := KX.out.lt
  go_wp2_with fail
  refine name_calls ?_; intro v2 hv2
  have X2 : Hid (Chg (0) (0) w1 v2) := Lib.hid (by rw [hv2]; repeat' (first | with_reducible exact Chg.refl _ _ _ | with_reducible refine Chg.alloc ?_ _ | with_reducible refine Chg.drew ?_ | with_reducible refine Chg.set ?_ (by omega) _))
  have t2 : w1.heap.size ≤ v2.heap.size := X2.out.size
  have Ev2 : Hid (Ex w v2) := Lib.hid (Ew1.out.chg X2.out (by omega))
  clear qX0 qX1 qX2 jX
  replace KX : Hid (Blk v2 (w.heap.size) 28 [.slice a.b s.table.buckets.length a.bc, .slice a.f s.table.frames.length a.fc, .slice a.q s.cpus.length a.qc]) := Lib.hid (KX.out.chg X2.out (by omega))
  replace DX := Lib.hid (HM.out.ex Ev2.out)
  clear hv2
  refine (C2.out _ DX.out.q).mono ?_
  rintro r w2 ⟨rfl, rfl⟩
  go_wp2
  go_ret
  exact ⟨rfl, Ev2.out⟩
end Go.Proofs.YtkoegcalfibinaaDoor
