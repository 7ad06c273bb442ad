/- Joined: Zi, Zk, Sa. -/
import Derived.Test.YtmipkeabfglfaaaDoorJ7
import Derived.Test.YtmipkeabfglfaaaDoorJ2
import Derived.Test.YtmipkeabfglfaaaDoorJ1
/- Drawn machines: small rules, l6Page. -/
namespace Go.Proofs.YtmipkeabfglfaaaDoor
open Go.ChangeShapes Go.WideShapes Go.ChangeAt Go.RowKit
open Rec (sz cs)
set_option linter.unusedVariables false
set_option maxRecDepth 100000

theorem Rd.past {w w' : World} {g b : Nat} {xs : List Int} (h : Rd w (some ⟨b, 0, none⟩) xs) (k : w.grownBy w' (some g)) (hb : b ≠ g) : Rd w' (some ⟨b, 0, none⟩) xs :=
  h.grown k (fun b' e off e2 => by injection e with e; injection e2 with e2; injection e2 with e2; omega)
theorem Rd.lits_drew (w : World) (T : TypeId) (zs : List Int) : Rd ((w.alloc (.cells (zs.map (Value.int .i64)).toArray T)).drew) (some ⟨w.heap.size, 0, none⟩) zs := (Rd.lits w T zs).drew
/-- A small machine: whatever a drawn one may be. -/
structure FewB (m : MachD) (k : Nat) : Prop where
  b : m.table.buckets.length ≤ k
  f : m.table.frames.length ≤ k
  l : m.cache.lines.length ≤ 8
  o : m.tags.owns.length ≤ k
  z : 0 < m.table.frames.length → 0 < m.table.buckets.length
theorem FewB.few {m : MachD} {k : Nat} (h : FewB m k) (hk : k ≤ 1000) : FewM m := ⟨by have := h.b; omega, by have := h.f; omega, by have := h.l; omega, by have := h.o; omega⟩
theorem MachOk.fewB {m : MachD} (h : MachOk m) : FewB m 16 := by
  obtain ⟨h1, h2, h3, h4, h5, h6, h7⟩ := h.few
  exact ⟨h1, h2, h3, by omega, fun _ => h5⟩
/-- Some machine comes back, and the reader has gone on. -/
def SomeMach (g p lo k : Nat) (P : MachD → Prop) (w : World) (e : Ending) (w' : World) : Prop := ∃ (m : MachD) (a : MA) (p' : Nat), e = .returned (.agg #[.slice a.b m.table.buckets.length a.bc, .slice a.f m.table.frames.length a.fc, .slice a.l m.cache.lines.length a.lc, .int .i64 m.cache.hand, .int .i64 m.tags.count, .int .i64 m.tags.next, .int .i64 m.tags.round, .slice a.o m.tags.owns.length a.oc, .int .i64 m.space]) ∧ P m ∧ FrM w' lo m a ∧ Rdr w' g p' ∧ p' ≤ p + k ∧ w.grownBy w' (some g)
/-- A step of a machine: where it could be made, the machine is valid. -/
def StepOr (w : World) (e : Ending) (w' : World) : Prop := ∃ (n : MachD) (a : MA) (ok : Bool), e = .returned (.tuple #[.agg #[.slice a.b n.table.buckets.length a.bc, .slice a.f n.table.frames.length a.fc, .slice a.l n.cache.lines.length a.lc, .int .i64 n.cache.hand, .int .i64 n.tags.count, .int .i64 n.tags.next, .int .i64 n.tags.round, .slice a.o n.tags.owns.length a.oc, .int .i64 n.space], .bool ok]) ∧ (ok = true → MachOk n) ∧ FrM w' w.heap.size n a ∧ Ex w w'
def SomePage (g p : Nat) (w : World) (e : Ending) (w' : World) : Prop := ∃ v : Int, e = .returned (.int .i64 v) ∧ (0 ≤ v ∧ v < 256) ∧ Rdr w' g (p + 1) ∧ w.grownBy w' (some g)

set_option maxHeartbeats 1000000 in
theorem l6Page_c (g p : Nat) (w : World) (h : Rdr w g p) (hp : p ≤ 900000) : Calls Tryd.prog 60 #[.pointer (some ⟨g, 0, none⟩)] w (SomePage g p w) := by
  have lg := h.lt
  have HR0 := Lib.hid h
  clear h
  go_enter Tryd.func60, Tryd.ntmps60
  go_wp2_with fail
  refine name_calls ?_; intro v1 hv1
  have X1 : Hid (Chg (0) (0) w v1) := Lib.hid (by rw [hv1]; repeat' (first | with_reducible exact Chg.refl _ _ _ | with_reducible refine Chg.alloc ?_ _ | with_reducible refine Chg.drew ?_ | with_reducible refine Chg.set ?_ (by omega) _))
  have t1 : w.heap.size ≤ v1.heap.size := X1.out.size
  have Ev1 : Hid (Chg g (g + 1) w v1) := Lib.hid ((Chg.refl g (g + 1) w).step X1.out (by omega))
  replace HR0 := Lib.hid (HR0.out.chg X1.out (by omega))
  have L1 : Hid (Rd v1 (some ⟨w.heap.size, 0, none⟩) ([1, 2, 3, 4, 200, 201, 5] : List Int)) := Lib.hid (by rw [hv1]; repeat' (first | exact Rd.lits _ _ _ | exact Rd.lits_at _ _ _ (by simp) | with_reducible refine Rd.alloc ?_ _))
  clear hv1
  refine (num_c g p _ 0 _ [1, 2, 3, 4, 200, 201, 5] _ HR0.out L1.out (by simp) (by simp) (by omega) (by omega)).mono ?_; rintro r w1 ⟨n1, rfl, hhn1, hrd1, hb1⟩
  have Y1 : Hid (Chg (g) (g + 1) v1 w1) := Lib.hid (Chg.of_grown hb1 (fun b hb => by injection hb with hb; omega))
  have s1 : v1.heap.size ≤ w1.heap.size := Y1.out.size
  have Ew1 : Hid (Chg g (g + 1) w w1) := Lib.hid (Ev1.out.step Y1.out (by omega))
  clear hb1
  clear HR0
  have HRD1 := Lib.hid hrd1; clear hrd1
  have HHN1 := Lib.hid hhn1; clear hhn1
  go_wp2
  go_ret
  exact ⟨n1, rfl, by have := HHN1.out; simp at this; omega, HRD1.out, Chg.grown Ew1.out⟩
end Go.Proofs.YtmipkeabfglfaaaDoor
/- A row and a box of another kind lie apart; drawn keys. -/
namespace Go.Proofs.YtmipkeabfglfaaaDoor
open Go.ChangeShapes Go.WideShapes Go.ChangeAt Go.RowKit
open Rec (sz cs)
set_option linter.unusedVariables false
set_option maxRecDepth 100000

theorem Fr.off {α : Type} [Rec α] {E T : TypeId} {w : World} {B c g : Nat} {A : Option Addr} {xs : List α} {cells : List Value} (h : Fr E w B A c xs) (k : Blk w g T cells) (hE : E ≠ T) : ∀ b, rowOf A c = some b → b ≠ g := by
  intro b hb e
  subst e
  obtain ⟨_, _, h0 | ⟨g', rest, rfl, _, hk, _⟩⟩ := h
  · unfold rowOf at hb; rw [if_pos h0] at hb; cases hb
  · unfold rowOf at hb
    split at hb
    · cases hb
    · injection hb with hb
      subst hb
      have h1 : w.heap[g']? = _ := hk
      have h2 : w.heap[g']? = _ := k
      rw [h1] at h2
      injection h2 with h2
      injection h2 with _ h3
      exact hE h3
def SomeKey (g p : Nat) (w : World) (e : Ending) (w' : World) : Prop := ∃ k : KeyD, e = .returned (.agg #[.int .i64 k.space, .int .i64 k.page]) ∧ keyOk k ∧ Rdr w' g (p + 2) ∧ w.grownBy w' (some g)

set_option maxHeartbeats 1000000 in
theorem l2Draw_c (g p : Nat) (w : World) (h : Rdr w g p) (hp : p ≤ 900000) : Calls Tryd.prog 80 #[.pointer (some ⟨g, 0, none⟩)] w (SomeKey g p w) := by
  have lg := h.lt
  have HR0 := Lib.hid h
  clear h
  go_enter Tryd.func80, Tryd.ntmps80
  go_wp2_with fail
  refine name_calls ?_; intro v1 hv1
  have X1 : Hid (Chg (0) (0) w v1) := Lib.hid (by rw [hv1]; repeat' (first | with_reducible exact Chg.refl _ _ _ | with_reducible refine Chg.alloc ?_ _ | with_reducible refine Chg.drew ?_ | with_reducible refine Chg.set ?_ (by omega) _))
  have t1 : w.heap.size ≤ v1.heap.size := X1.out.size
  have Ev1 : Hid (Chg g (g + 1) w v1) := Lib.hid ((Chg.refl g (g + 1) w).step X1.out (by omega))
  replace HR0 := Lib.hid (HR0.out.chg X1.out (by omega))
  have L1 : Hid (Rd v1 (some ⟨w.heap.size + 1, 0, none⟩) ([0, 1, 2, 3, 1] : List Int)) := Lib.hid (by rw [hv1]; repeat' (first | exact Rd.lits _ _ _ | exact Rd.lits_at _ _ _ (by simp) | with_reducible refine Rd.alloc ?_ _))
  have KR : Hid (Blk v1 (w.heap.size) 53 [.int .i64 0, .int .i64 0]) := Lib.hid (by rw [hv1]; repeat' (first | with_reducible exact Blk.new_at _ _ _ (by simp) | with_reducible refine Blk.alloc ?_ _ | with_reducible refine Blk.drew ?_ | with_reducible refine Blk.far ?_ (by simp; omega) _))
  have lR : w.heap.size < v1.heap.size := KR.out.lt
  clear hv1
  refine (num_c g p _ 0 _ [0, 1, 2, 3, 1] _ HR0.out L1.out (by simp) (by simp) (by omega) (by omega)).mono ?_; rintro r w1 ⟨n1, rfl, hhn1, hrd1, hb1⟩
  have Y1 : Hid (Chg (g) (g + 1) v1 w1) := Lib.hid (Chg.of_grown hb1 (fun b hb => by injection hb with hb; omega))
  have s1 : v1.heap.size ≤ w1.heap.size := Y1.out.size
  have Ew1 : Hid (Chg g (g + 1) w w1) := Lib.hid (Ev1.out.step Y1.out (by omega))
  clear hb1
  replace KR := Lib.hid (KR.out.chg Y1.out (by omega))
  clear HR0
  have HRD1 := Lib.hid hrd1; clear hrd1
  have HHN1 := Lib.hid hhn1; clear hhn1
  obtain ⟨qR0, qR1⟩ := KR.out.c2
  have jR := KR.out.lt
  have zR := KR.out.frozen
  go_wp2_with fail
  refine name_calls ?_; intro v2 hv2
  have X2 : Hid (Chg (0) (0) w1 v2) := Lib.hid (by rw [hv2]; repeat' (first | with_reducible exact Chg.refl _ _ _ | with_reducible refine Chg.alloc ?_ _ | with_reducible refine Chg.drew ?_ | with_reducible refine Chg.set ?_ (by omega) _))
  have t2 : w1.heap.size ≤ v2.heap.size := X2.out.size
  have Ev2 : Hid (Chg g (g + 1) w v2) := Lib.hid (Ew1.out.step X2.out (by omega))
  clear qR0 qR1 jR zR
  replace KR := Lib.hid (KR.out.chg X2.out (by omega))
  replace HRD1 := Lib.hid (HRD1.out.chg X2.out (by omega))
  have L2 : Hid (Rd v2 (some ⟨w1.heap.size, 0, none⟩) ([0, 1, 2, 3, 4, 5, 100, 255] : List Int)) := Lib.hid (by rw [hv2]; repeat' (first | exact Rd.lits _ _ _ | exact Rd.lits_at _ _ _ (by simp) | with_reducible refine Rd.alloc ?_ _))
  clear hv2
  refine (num_c g (p + 1) _ 0 _ [0, 1, 2, 3, 4, 5, 100, 255] _ HRD1.out L2.out (by simp) (by simp) (by omega) (by omega)).mono ?_; rintro r w2 ⟨n2, rfl, hhn2, hrd2, hb2⟩
  have Y2 : Hid (Chg (g) (g + 1) v2 w2) := Lib.hid (Chg.of_grown hb2 (fun b hb => by injection hb with hb; omega))
  have s2 : v2.heap.size ≤ w2.heap.size := Y2.out.size
  have Ew2 : Hid (Chg g (g + 1) w w2) := Lib.hid (Ev2.out.step Y2.out (by omega))
  clear hb2
  replace KR := Lib.hid (KR.out.chg Y2.out (by omega))
  clear HRD1
  have HRD2 := Lib.hid hrd2; clear hrd2
  have HHN2 := Lib.hid hhn2; clear hhn2
  obtain ⟨qR0, qR1⟩ := KR.out.c2
  have jR := KR.out.lt
  have zR := KR.out.frozen
  go_wp2
  exact bodyPost_ret (v := .agg #[.int .i64 n1, .int .i64 n2]) (by simp [results, Tryd.results80, go_sem, *]) rfl
    ⟨⟨n1, n2⟩, rfl, by have h1 := HHN1.out; have h2 := HHN2.out; simp at h1 h2; unfold keyOk; simp only; omega, Rdr.chg (lo := w.heap.size) (hi := w.heap.size + 1) HRD2.out (by repeat' (first | with_reducible exact Chg.refl _ _ w2 | with_reducible refine Chg.alloc ?_ _ | with_reducible refine Chg.drew ?_ | with_reducible refine Chg.set ?_ (by omega) _)) (by omega), Chg.grown (by repeat' (first | with_reducible exact Ew2.out | with_reducible refine Chg.alloc ?_ _ | with_reducible refine Chg.drew ?_ | with_reducible refine Chg.set ?_ (by omega) _))⟩
end Go.Proofs.YtmipkeabfglfaaaDoor
/- Drawn tags: l5Spaces. -/
namespace Go.Proofs.YtmipkeabfglfaaaDoor
open Go.ChangeShapes Go.WideShapes Go.ChangeAt Go.RowKit
open Rec (sz cs)
set_option linter.unusedVariables false
set_option maxRecDepth 100000

theorem one_int (w : World) (z : Int) : Rd (w.alloc (.cells #[.int .i64 z] 3)) (some ⟨w.heap.size, 0, none⟩) [z] := Bk.rd (Bk.new w 3 [z])
theorem Rdr.kept {w w' : World} {g p lo hi : Nat} (h : Rdr w g p) (k : Chg lo hi w w') (h1 : g < lo) : Rdr w' g p := h.chg k (.inl h1)

end Go.Proofs.YtmipkeabfglfaaaDoor
