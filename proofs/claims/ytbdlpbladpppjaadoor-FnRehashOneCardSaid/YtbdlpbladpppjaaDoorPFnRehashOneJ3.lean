/- Joined: Wu, Ra, Sa, Gd, Rb, Qd, Rc, Rh, Open, Vm, Tv, Vi, Vn. -/
import Derived.Deep.RegionHeld3
import Derived.Deep.DeepCutAuto
import Derived.Test.YtbdlpbladpppjaaDoorRows
import Derived.ShutString
import Derived.ChangeOld
import Derived.Deep.Slices
import Derived.Deep.Fields
import Derived.ChangeSame
import Derived.Lib.SmallJoins
import Derived.DeepKeys4
import Derived.MapViews
import Derived.Maps.OwnSet
import Derived.Test.YtbdlpbladpppjaaDoorPFnRehashOneJ2
import Derived.Test.YtbdlpbladpppjaaDoorPFnRehashOneJ1
/- UnmapPage of the reference, over a valid table. -/
namespace Go.Proofs.YtbdlpbladpppjaaDoor
open Go.ChangeShapes Go.WideShapes Go.ChangeAt Go.RowKit
open Rec (sz cs)
set_option linter.unusedVariables false
set_option maxRecDepth 100000

def unmapT (t : TableD) (k : KeyD) : TableD × Bool := if findF t k < 0 then (noTable, false) else (unlinkT t (findF t k).toNat, true)

set_option maxHeartbeats 4000000 in
theorem unmapS_c (t : TableD) (A : Option Addr) (c : Nat) (B : Option Addr) (d : Nat) (k : KeyD) (w : World) (hx : Rd w A t.buckets) (hy : Rd w B t.frames) (hc : t.buckets.length ≤ c) (hd : t.frames.length ≤ d) (hc2 : c ≤ maxLen) (hd2 : d ≤ maxLen)
    (hok : TableOk t) (hk : keyOk k) :
    Calls Tryd.prog 32 #[.agg #[.slice A t.buckets.length c, .slice B t.frames.length d], .agg #[.int .i64 k.space, .int .i64 k.page]] w (TabOr (unmapT t k) w) := by
  have few := hok.1
  unfold TableHead at few
  have C1 := Lib.hid (fun w' (h : Ex w w') => findPageS_c t A c B d k w' (hx.ex h) (hy.ex h) hok hk)
  rcases findF_or (t := t) k with e | ⟨i, f, e, hf, hu, _⟩
  · have HN : unmapT t k = (noTable, false) := by unfold unmapT; rw [if_pos (by omega)]
    rw [HN]
    rw [e] at C1
    unfold FoundP at C1
    simp only [if_pos (show (-1 : Int) < 0 by decide), show decide ((0 : Int) ≤ -1) = false from rfl] at C1
    clear HN e hx hy hok hk few
    generalize t.buckets.length = nb at C1 ⊢
    generalize t.frames.length = n at C1 ⊢
    go_enter Tryd.func32, Tryd.ntmps32
    go_wp2_with fail
    refine name_calls ?_; intro v1 hv1
    have X1 : Hid (Chg (0) (0) w v1) := Lib.hid (by rw [hv1]; repeat' (first | with_reducible exact Chg.refl _ _ _ | with_reducible refine Chg.alloc ?_ _ | with_reducible refine Chg.drew ?_ | with_reducible refine Chg.set ?_ (by omega) _))
    have t1 : w.heap.size ≤ v1.heap.size := X1.out.size
    have Ev1 : Hid (Ex w v1) := Lib.hid ((Ex.refl w).chg X1.out (by omega))
    have KX : Hid (Blk v1 (w.heap.size) 26 [.slice A nb c, .slice B n d]) := Lib.hid (by rw [hv1]; repeat' (first | with_reducible exact Blk.new_at _ _ _ (by simp) | with_reducible refine Blk.alloc ?_ _ | with_reducible refine Blk.drew ?_ | with_reducible refine Blk.far ?_ (by simp; omega) _))
    have lX : w.heap.size < v1.heap.size := KX.out.lt
    have KK : Hid (Blk v1 (w.heap.size + 1) 45 [.int .i64 k.space, .int .i64 k.page]) := Lib.hid (by rw [hv1]; repeat' (first | with_reducible exact Blk.new_at _ _ _ (by simp) | with_reducible refine Blk.alloc ?_ _ | with_reducible refine Blk.drew ?_ | with_reducible refine Blk.far ?_ (by simp; omega) _))
    have lK : w.heap.size + 1 < v1.heap.size := KK.out.lt
    have KR : Hid (Blk v1 (w.heap.size + 1 + 1) 26 [.slice none 0 0, .slice none 0 0]) := Lib.hid (by rw [hv1]; repeat' (first | with_reducible exact Blk.new_at _ _ _ (by simp) | with_reducible refine Blk.alloc ?_ _ | with_reducible refine Blk.drew ?_ | with_reducible refine Blk.far ?_ (by simp; omega) _))
    have lR : w.heap.size + 1 + 1 < v1.heap.size := KR.out.lt
    clear hv1
    refine (C1.out _ Ev1.out).mono ?_; rintro r w1 ⟨sp, rfl, hb1⟩
    have Y1 : Hid (Chg 0 0 v1 w1) := Lib.hid (Chg.of_ex hb1)
    have s1 : v1.heap.size ≤ w1.heap.size := Y1.out.size
    have Ew1 : Hid (Ex w w1) := Lib.hid (Ev1.out.chg Y1.out (by omega))
    clear hb1
    replace KX := Lib.hid (KX.out.chg Y1.out (by omega))
    replace KK := Lib.hid (KK.out.chg Y1.out (by omega))
    replace KR := Lib.hid (KR.out.chg Y1.out (by omega))
    obtain ⟨qX0, qX1⟩ := KX.out.c2
    have jX := KX.out.lt
    obtain ⟨qK0, qK1⟩ := KK.out.c2
    have jK := KK.out.lt
    obtain ⟨qR0, qR1⟩ := KR.out.c2
    have jR := KR.out.lt
    have zR := KR.out.frozen
    go_wp2
    exact bodyPost_ret (v := .tuple #[.agg #[.slice none 0 0, .slice none 0 0], .bool false]) (by first | (simp [results, Tryd.results32, go_sem, *]; done) | (simp [results, Tryd.results32, go_sem, qR0, qR1]; done)) rfl
      ⟨none, 0, none, 0, rfl, Fr.none_ _ _ _ _, Fr.none_ _ _ _ _, (by repeat' (first | with_reducible exact Ew1.out | with_reducible refine Ex.alloc ?_ _ | with_reducible refine Ex.drew ?_ | with_reducible refine Ex.put ?_ (by omega) _))⟩
  · have HN : unmapT t k = (unlinkT t i, true) := by unfold unmapT; rw [if_neg (by omega), e, Int.toNat_natCast]
    rw [HN]
    have C2 := Lib.hid (fun w' (h : Ex w w') => l3Unmap_c t A c B d i f w' (hx.ex h) (hy.ex h) hc hd hc2 hd2 hok hf hu)
    have h1 : ¬ findF t k < 0 := by omega
    have h2 : 0 ≤ findF t k := by omega
    unfold FoundP at C1
    simp only [if_neg h1, decide_eq_true h2] at C1
    rw [e] at C1
    generalize unlinkT t i = q at C2 ⊢
    clear HN e hx hy hok hk few h1 h2 hf hc hd
    generalize t.buckets.length = nb at C1 C2 ⊢
    generalize t.frames.length = n at C1 C2 ⊢
    go_enter Tryd.func32, Tryd.ntmps32
    go_wp2_with fail
    refine name_calls ?_; intro v1 hv1
    have X1 : Hid (Chg (0) (0) w v1) := Lib.hid (by rw [hv1]; repeat' (first | with_reducible exact Chg.refl _ _ _ | with_reducible refine Chg.alloc ?_ _ | with_reducible refine Chg.drew ?_ | with_reducible refine Chg.set ?_ (by omega) _))
    have t1 : w.heap.size ≤ v1.heap.size := X1.out.size
    have Ev1 : Hid (Ex w v1) := Lib.hid ((Ex.refl w).chg X1.out (by omega))
    have KX : Hid (Blk v1 (w.heap.size) 26 [.slice A nb c, .slice B n d]) := Lib.hid (by rw [hv1]; repeat' (first | with_reducible exact Blk.new_at _ _ _ (by simp) | with_reducible refine Blk.alloc ?_ _ | with_reducible refine Blk.drew ?_ | with_reducible refine Blk.far ?_ (by simp; omega) _))
    have lX : w.heap.size < v1.heap.size := KX.out.lt
    have KK : Hid (Blk v1 (w.heap.size + 1) 45 [.int .i64 k.space, .int .i64 k.page]) := Lib.hid (by rw [hv1]; repeat' (first | with_reducible exact Blk.new_at _ _ _ (by simp) | with_reducible refine Blk.alloc ?_ _ | with_reducible refine Blk.drew ?_ | with_reducible refine Blk.far ?_ (by simp; omega) _))
    have lK : w.heap.size + 1 < v1.heap.size := KK.out.lt
    have KR : Hid (Blk v1 (w.heap.size + 1 + 1) 26 [.slice none 0 0, .slice none 0 0]) := Lib.hid (by rw [hv1]; repeat' (first | with_reducible exact Blk.new_at _ _ _ (by simp) | with_reducible refine Blk.alloc ?_ _ | with_reducible refine Blk.drew ?_ | with_reducible refine Blk.far ?_ (by simp; omega) _))
    have lR : w.heap.size + 1 + 1 < v1.heap.size := KR.out.lt
    clear hv1
    refine (C1.out _ Ev1.out).mono ?_; rintro r w1 ⟨sp, rfl, hb1⟩
    have Y1 : Hid (Chg 0 0 v1 w1) := Lib.hid (Chg.of_ex hb1)
    have s1 : v1.heap.size ≤ w1.heap.size := Y1.out.size
    have Ew1 : Hid (Ex w w1) := Lib.hid (Ev1.out.chg Y1.out (by omega))
    clear hb1
    replace KX := Lib.hid (KX.out.chg Y1.out (by omega))
    replace KK := Lib.hid (KK.out.chg Y1.out (by omega))
    replace KR := Lib.hid (KR.out.chg Y1.out (by omega))
    obtain ⟨qX0, qX1⟩ := KX.out.c2
    have jX := KX.out.lt
    obtain ⟨qK0, qK1⟩ := KK.out.c2
    have jK := KK.out.lt
    obtain ⟨qR0, qR1⟩ := KR.out.c2
    have jR := KR.out.lt
    have zR := KR.out.frozen
    go_wp2_with fail
    refine name_calls ?_; intro v2 hv2
    have X2 : Hid (Chg (0) (0) w1 v2) := Lib.hid (by rw [hv2]; repeat' (first | with_reducible exact Chg.refl _ _ _ | with_reducible refine Chg.alloc ?_ _ | with_reducible refine Chg.drew ?_ | with_reducible refine Chg.set ?_ (by omega) _))
    have t2 : w1.heap.size ≤ v2.heap.size := X2.out.size
    have Ev2 : Hid (Ex w v2) := Lib.hid (Ew1.out.chg X2.out (by omega))
    clear qX0 qX1 jX
    clear qK0 qK1 jK
    clear qR0 qR1 jR zR
    replace KX := Lib.hid (KX.out.chg X2.out (by omega))
    replace KK := Lib.hid (KK.out.chg X2.out (by omega))
    replace KR := Lib.hid (KR.out.chg X2.out (by omega))
    clear hv2
    refine (C2.out _ Ev2.out).mono ?_; rintro r w2 ⟨A2, c2, B2, d2, rfl, hfa, hfb, hb2⟩
    have Y2 : Hid (Chg 0 0 v2 w2) := Lib.hid (Chg.of_ex hb2)
    have s2 : v2.heap.size ≤ w2.heap.size := Y2.out.size
    have Ew2 : Hid (Ex w w2) := Lib.hid (Ev2.out.chg Y2.out (by omega))
    clear hb2
    replace KX := Lib.hid (KX.out.chg Y2.out (by omega))
    replace KK := Lib.hid (KK.out.chg Y2.out (by omega))
    replace KR := Lib.hid (KR.out.chg Y2.out (by omega))
    have HFA := Lib.hid hfa; clear hfa
    have WHFA := Lib.hid HFA.out.row
    have HFB := Lib.hid hfb; clear hfb
    have WHFB := Lib.hid HFB.out.row
    obtain ⟨qX0, qX1⟩ := KX.out.c2
    have jX := KX.out.lt
    obtain ⟨qK0, qK1⟩ := KK.out.c2
    have jK := KK.out.lt
    obtain ⟨qR0, qR1⟩ := KR.out.c2
    have jR := KR.out.lt
    have zR := KR.out.frozen
    go_wp2
    exact bodyPost_ret (v := .tuple #[.agg #[.slice A2 q.buckets.length c2, .slice B2 q.frames.length d2], .bool true]) (by first | (simp [results, Tryd.results32, go_sem, *]; done) | (simp [results, Tryd.results32, go_sem, qR0, qR1]; done)) rfl
      ⟨A2, c2, B2, d2, rfl, Fr.mono (B := v2.heap.size) (by repeat' (first | with_reducible exact HFA.out | with_reducible refine Fr.alloc ?_ _ | with_reducible refine Fr.put ?_ (fun b hb => by have := WHFA.out b hb; omega) _)) (by omega), Fr.mono (B := v2.heap.size) (by repeat' (first | with_reducible exact HFB.out | with_reducible refine Fr.alloc ?_ _ | with_reducible refine Fr.put ?_ (fun b hb => by have := WHFB.out b hb; omega) _)) (by omega), (by repeat' (first | with_reducible exact Ew2.out | with_reducible refine Ex.alloc ?_ _ | with_reducible refine Ex.drew ?_ | with_reducible refine Ex.put ?_ (by omega) _))⟩
end Go.Proofs.YtbdlpbladpppjaaDoor
/- Drawn tables: l3Draw; a valid table of at most eight frames comes back. -/
namespace Go.Proofs.YtbdlpbladpppjaaDoor
open Go.ChangeShapes Go.WideShapes Go.ChangeAt Go.RowKit
open Rec (sz cs)
set_option linter.unusedVariables false
set_option maxRecDepth 100000

def SmallT (t : TableD) : Prop := TableOk t ∧ t.frames.length ≤ 8
def SomeTabD (g p : Nat) (w : World) (e : Ending) (w' : World) : Prop := ∃ (t : TableD) (A : Option Addr) (c : Nat) (B : Option Addr) (d p' : Nat), e = .returned (.agg #[.slice A t.buckets.length c, .slice B t.frames.length d]) ∧ SmallT t ∧ Fr 3 w' w.heap.size A c t.buckets ∧ Fr 47 w' w.heap.size B d t.frames ∧ Rdr w' g p' ∧ p' ≤ p + 100 ∧ w.grownBy w' (some g)
/-- What holds at the head of l3Draw's loop. -/
def DrawLoop3 (g gO p : Nat) (w : World) (i : Value) (wr : World) : Prop := ∃ (k : Nat) (t : TableD) (A : Option Addr) (c : Nat) (B : Option Addr) (d p' : Nat), i = .int .i64 k ∧ k ≤ 6 ∧ SmallT t ∧ Blk wr gO 26 [.slice A t.buckets.length c, .slice B t.frames.length d] ∧ Fr 3 wr w.heap.size A c t.buckets ∧ Fr 47 wr w.heap.size B d t.frames ∧ Rdr wr g p' ∧ p' + 10 * k ≤ p + 70 ∧ Chg g (g + 1) w wr ∧ Blk wr w.heap.size 26 [.slice none 0 0, .slice none 0 0]
/-- What a step of it lays: another table. -/
def Step3 (g q : Nat) (wr : World) (s6 s7 : Value) (wx : World) : Prop := ∃ (gN : Nat) (n : TableD) (ok : Bool) (A : Option Addr) (c : Nat) (B : Option Addr) (d : Nat), s6 = .pointer (some ⟨gN, 0, none⟩) ∧ s7 = .bool ok ∧ (ok = true → SmallT n) ∧ Blk wx gN 26 [.slice A n.buckets.length c, .slice B n.frames.length d] ∧ Fr 3 wx wr.heap.size A c n.buckets ∧ Fr 47 wx wr.heap.size B d n.frames ∧ Rdr wx g q ∧ Chg g (g + 1) wr wx ∧ wr.heap.size ≤ gN
theorem Blk.past {w w' : World} {g b : Nat} {t : TypeId} {cs : List Value} (h : Blk w b t cs) (k : w.grownBy w' (some g)) (hb : b ≠ g) : Blk w' b t cs := h.grown k (fun e => by injection e with e; exact hb e)
theorem Rdr.put2 {w : World} {g p b : Nat} {x y : Value} (h : Rdr w g p) (hb : g < b) : Rdr ((w.setCell ⟨b, 0, none⟩ x).setCell ⟨b, 1, none⟩ y) g p :=
  Rdr.chg (lo := b) (hi := b + 1) h (((Chg.refl _ _ _).set (.inl ⟨Nat.le_refl _, Nat.lt_succ_self _⟩) _).set (.inl ⟨Nat.le_refl _, Nat.lt_succ_self _⟩) _) (.inl hb)
theorem mapT_small {t : TableD} {k : KeyD} {i : Nat} {rt : Int} (h : SmallT t) (hk : keyOk k) (hr : 0 ≤ rt ∧ rt < 8) (hi : i < t.frames.length) (hok : (mapT t k i rt).2 = true) : SmallT (mapT t k i rt).1 := by
  unfold mapT at hok ⊢
  split at hok
  · rename_i hp
    rw [if_pos hp]
    unfold putsT at hp
    rw [Bool.and_eq_true, Bool.not_eq_true', decide_eq_true_iff] at hp
    have hf := List.getElem?_eq_getElem hi
    rw [getD_of hf] at hp
    exact ⟨linkT_ok h.1 hk hr hf hp.1 hp.2, by unfold linkT; simpa using h.2⟩
  · cases hok
theorem unmapT_small {t : TableD} {k : KeyD} (h : SmallT t) (hok : (unmapT t k).2 = true) : SmallT (unmapT t k).1 := by
  unfold unmapT at hok ⊢
  split at hok
  · cases hok
  · rename_i hq
    rw [if_neg hq]
    rcases findF_or (t := t) k with e | ⟨i, f, e, hf, hu, _⟩
    · omega
    rw [e, Int.toNat_natCast]
    exact ⟨unlinkT_ok h.1 hf hu, by rw [(unlinkT_facts h.1 hf hu).2.1]; exact h.2⟩

set_option maxHeartbeats 16000000 in
theorem l3Draw_c (g p : Nat) (w : World) (h : Rdr w g p) (hp : p ≤ 700000) : Calls Tryd.prog 12 #[.pointer (some ⟨g, 0, none⟩)] w (SomeTabD g p w) := by
  have lg := h.lt
  have HR0 := Lib.hid h
  clear h
  go_enter Tryd.func12, Tryd.ntmps12
  go_wp2_with fail
  refine name_calls ?_; intro v1 hv1
  have X1 : Hid (Chg (0) (0) w v1) := Lib.hid (by rw [hv1]; repeat' (first | with_reducible exact Chg.refl _ _ _ | with_reducible refine Chg.alloc ?_ _ | with_reducible refine Chg.drew ?_ | with_reducible refine Chg.set ?_ (by omega) _))
  have t1 : w.heap.size ≤ v1.heap.size := X1.out.size
  have Ev1 : Hid (Chg g (g + 1) w v1) := Lib.hid ((Chg.refl g (g + 1) w).step X1.out (by omega))
  replace HR0 := Lib.hid (HR0.out.chg X1.out (by omega))
  have L1 : Hid (Rd v1 (some ⟨w.heap.size + 1, 0, none⟩) ([6, 4, 8, 2, 1] : List Int)) := Lib.hid (by rw [hv1]; repeat' (first | exact Rd.lits _ _ _ | exact Rd.lits_at _ _ _ (by simp) | with_reducible refine Rd.alloc ?_ _))
  have KR : Hid (Blk v1 (w.heap.size) 26 [.slice none 0 0, .slice none 0 0]) := Lib.hid (by rw [hv1]; repeat' (first | with_reducible exact Blk.new_at _ _ _ (by simp) | with_reducible refine Blk.alloc ?_ _ | with_reducible refine Blk.drew ?_ | with_reducible refine Blk.far ?_ (by simp; omega) _))
  have lR : w.heap.size < v1.heap.size := KR.out.lt
  clear hv1
  refine (num_c g p _ 0 _ [6, 4, 8, 2, 1] _ HR0.out L1.out (by simp) (by simp) (by omega) (by omega)).mono ?_; rintro r w1 ⟨n1, rfl, hhn1, hrd1, hb1⟩
  have Y1 : Hid (Chg (g) (g + 1) v1 w1) := Lib.hid (Chg.of_grown hb1 (fun b hb => by injection hb with hb; omega))
  have s1 : v1.heap.size ≤ w1.heap.size := Y1.out.size
  have Ew1 : Hid (Chg g (g + 1) w w1) := Lib.hid (Ev1.out.step Y1.out (by omega))
  clear hb1
  replace KR := Lib.hid (KR.out.chg Y1.out (by omega))
  clear HR0
  have HRD1 := Lib.hid hrd1; clear hrd1
  have HHN1 := Lib.hid hhn1; clear hhn1
  obtain ⟨qR0, qR1⟩ := KR.out.c2
  have jR := KR.out.lt
  go_wp2_with fail
  refine name_calls ?_; intro v2 hv2
  have X2 : Hid (Chg (0) (0) w1 v2) := Lib.hid (by rw [hv2]; repeat' (first | with_reducible exact Chg.refl _ _ _ | with_reducible refine Chg.alloc ?_ _ | with_reducible refine Chg.drew ?_ | with_reducible refine Chg.set ?_ (by omega) _))
  have t2 : w1.heap.size ≤ v2.heap.size := X2.out.size
  have Ev2 : Hid (Chg g (g + 1) w v2) := Lib.hid (Ew1.out.step X2.out (by omega))
  clear qR0 qR1 jR
  replace KR := Lib.hid (KR.out.chg X2.out (by omega))
  replace HRD1 := Lib.hid (HRD1.out.chg X2.out (by omega))
  have L2 : Hid (Rd v2 (some ⟨w1.heap.size, 0, none⟩) ([4, 2, 8, 1, 3] : List Int)) := Lib.hid (by rw [hv2]; repeat' (first | exact Rd.lits _ _ _ | exact Rd.lits_at _ _ _ (by simp) | with_reducible refine Rd.alloc ?_ _))
  clear hv2
  refine (num_c g (p + 1) _ 0 _ [4, 2, 8, 1, 3] _ HRD1.out L2.out (by simp) (by simp) (by omega) (by omega)).mono ?_; rintro r w2 ⟨n2, rfl, hhn2, hrd2, hb2⟩
  have Y2 : Hid (Chg (g) (g + 1) v2 w2) := Lib.hid (Chg.of_grown hb2 (fun b hb => by injection hb with hb; omega))
  have s2 : v2.heap.size ≤ w2.heap.size := Y2.out.size
  have Ew2 : Hid (Chg g (g + 1) w w2) := Lib.hid (Ev2.out.step Y2.out (by omega))
  clear hb2
  replace KR := Lib.hid (KR.out.chg Y2.out (by omega))
  clear HRD1
  have HRD2 := Lib.hid hrd2; clear hrd2
  have HHN2 := Lib.hid hhn2; clear hhn2
  obtain ⟨qR0, qR1⟩ := KR.out.c2
  have jR := KR.out.lt
  have HSM : Hid (SmallT (newTable n1 n2).1) := Lib.hid (by
    have h1 := HHN1.out; have h2 := HHN2.out
    simp at h1 h2
    obtain ⟨_, k1, k2, _⟩ := newTable_ok (f := n1) (b := n2) (by omega) (by omega)
    exact ⟨k1, by rw [k2]; omega⟩)
  have C3 := Lib.hid (newTableS_c n1 n2)
  generalize newTable n1 n2 = q at C3 HSM
  obtain ⟨t0, ok0⟩ := q
  dsimp only at C3 HSM
  go_wp2_with fail
  refine name_calls ?_; intro v3 hv3
  have X3 : Hid (Chg (0) (0) w2 v3) := Lib.hid (by rw [hv3]; repeat' (first | with_reducible exact Chg.refl _ _ _ | with_reducible refine Chg.alloc ?_ _ | with_reducible refine Chg.drew ?_ | with_reducible refine Chg.set ?_ (by omega) _))
  have t3 : w2.heap.size ≤ v3.heap.size := X3.out.size
  have Ev3 : Hid (Chg g (g + 1) w v3) := Lib.hid (Ew2.out.step X3.out (by omega))
  clear qR0 qR1 jR
  replace KR := Lib.hid (KR.out.chg X3.out (by omega))
  replace HRD2 := Lib.hid (HRD2.out.chg X3.out (by omega))
  clear hv3
  refine (C3.out _).mono ?_; rintro r w3 ⟨A3, c3, B3, d3, rfl, hfa, hfb, hb3⟩
  have Y3 : Hid (Chg 0 0 v3 w3) := Lib.hid (Chg.of_ex hb3)
  have s3 : v3.heap.size ≤ w3.heap.size := Y3.out.size
  have Ew3 : Hid (Chg g (g + 1) w w3) := Lib.hid (Ev3.out.step Y3.out (by omega))
  clear hb3
  replace KR := Lib.hid (KR.out.chg Y3.out (by omega))
  replace HRD2 := Lib.hid (HRD2.out.chg Y3.out (by omega))
  have HFA := Lib.hid hfa; clear hfa
  have WHFA := Lib.hid HFA.out.row
  have HFB := Lib.hid hfb; clear hfb
  have WHFB := Lib.hid HFB.out.row
  obtain ⟨qR0, qR1⟩ := KR.out.c2
  have jR := KR.out.lt
  go_wp2_with fail
  refine name_calls ?_; intro v4 hv4
  have X4 : Hid (Chg (0) (0) w3 v4) := Lib.hid (by rw [hv4]; repeat' (first | with_reducible exact Chg.refl _ _ _ | with_reducible refine Chg.alloc ?_ _ | with_reducible refine Chg.drew ?_ | with_reducible refine Chg.set ?_ (by omega) _))
  have t4 : w3.heap.size ≤ v4.heap.size := X4.out.size
  have Ev4 : Hid (Chg g (g + 1) w v4) := Lib.hid (Ew3.out.step X4.out (by omega))
  clear qR0 qR1 jR
  replace KR := Lib.hid (KR.out.chg X4.out (by omega))
  replace HFA := Lib.hid (HFA.out.chg X4.out WHFA.out (by omega))
  replace HFB := Lib.hid (HFB.out.chg X4.out WHFB.out (by omega))
  replace HRD2 := Lib.hid (HRD2.out.chg X4.out (by omega))
  have L4 : Hid (Rd v4 (some ⟨w3.heap.size + 1, 0, none⟩) ([4, 3, 6, 1, 0] : List Int)) := Lib.hid (by rw [hv4]; repeat' (first | exact Rd.lits _ _ _ | exact Rd.lits_at _ _ _ (by simp) | with_reducible refine Rd.alloc ?_ _))
  have KO : Hid (Blk v4 (w3.heap.size) 26 [.slice A3 t0.buckets.length c3, .slice B3 t0.frames.length d3]) := Lib.hid (by rw [hv4]; repeat' (first | with_reducible exact Blk.new_at _ _ _ (by simp) | with_reducible refine Blk.alloc ?_ _ | with_reducible refine Blk.drew ?_ | with_reducible refine Blk.far ?_ (by simp; omega) _))
  have lO : w3.heap.size < v4.heap.size := KO.out.lt
  clear hv4
  refine (num_c g (p + 1 + 1) _ 0 _ [4, 3, 6, 1, 0] _ HRD2.out L4.out (by simp) (by simp) (by omega) (by omega)).mono ?_; rintro r w4 ⟨n4, rfl, hhn4, hrd4, hb4⟩
  have Y4 : Hid (Chg (g) (g + 1) v4 w4) := Lib.hid (Chg.of_grown hb4 (fun b hb => by injection hb with hb; omega))
  have s4 : v4.heap.size ≤ w4.heap.size := Y4.out.size
  have Ew4 : Hid (Chg g (g + 1) w w4) := Lib.hid (Ev4.out.step Y4.out (by omega))
  clear hb4
  replace KR := Lib.hid (KR.out.chg Y4.out (by omega))
  replace KO := Lib.hid (KO.out.chg Y4.out (by omega))
  replace HFA := Lib.hid (HFA.out.chg Y4.out WHFA.out (by omega))
  replace HFB := Lib.hid (HFB.out.chg Y4.out WHFB.out (by omega))
  clear HRD2
  have HRD4 := Lib.hid hrd4; clear hrd4
  have HHN4 := Lib.hid hhn4; clear hhn4
  obtain ⟨qR0, qR1⟩ := KR.out.c2
  have jR := KR.out.lt
  obtain ⟨qO0, qO1⟩ := KO.out.c2
  have jO := KO.out.lt
  have hn4 : ∃ k : Nat, n4 = (k : Int) ∧ k ≤ 6 := ⟨n4.toNat, by have := HHN4.out; simp at this; omega, by have := HHN4.out; simp at this; omega⟩
  obtain ⟨k4, rfl, hk4⟩ := hn4
  obtain ⟨gO, hgO⟩ : ∃ gO, gO = w3.heap.size := ⟨_, rfl⟩
  rw [← hgO] at KO lO jO qO0 qO1 ⊢
  have hgOw : w.heap.size < gO := by omega
  have hgOg : ¬ gO = g := by omega
  have HST : Hid (DrawLoop3 g gO p w (.int .i64 k4) w4) := Lib.hid ⟨k4, t0, A3, c3, B3, d3, p + 1 + 1 + 1, rfl, hk4, HSM.out, KO.out, HFA.out.mono (by omega), HFB.out.mono (by omega), HRD4.out, by omega, Ew4.out, KR.out⟩
  clear hgO HHN1 HHN2 HHN4 C3 qO0 qO1 jO lO KO qR0 qR1 jR KR HFA HFB WHFA WHFB HRD4 HSM
  go_wp2
  go_loopw [5] (fun i wr => DrawLoop3 g gO p w i wr) (fun i _ => (intOf i).toNat)
  case atStart => exact HST.out
  case round =>
    clear HST
    obtain ⟨k, t, A, c, B, d, p1, rfl, hk, hsm, hko, hfa, hfb, hrd, hp1, hch, hkr⟩ := hrel
    have HSM := Lib.hid hsm
    have KO := Lib.hid hko
    have HFA := Lib.hid hfa
    have HFB := Lib.hid hfb
    have HRD := Lib.hid hrd
    have Ewr := Lib.hid hch
    have KR := Lib.hid hkr
    have hsz := Ewr.out.size
    have hTH := hsm.1.1
    unfold TableHead at hTH
    clear hsm hko hfa hfb hrd hch hkr
    by_cases hlt : 0 < k
    rotate_left
    · have hk0 : k = 0 := by omega
      subst hk0
      obtain ⟨o0, o1⟩ := KO.out.c2
      have ol := KO.out.lt
      obtain ⟨qR0, qR1⟩ := KR.out.c2
      have jR := KR.out.lt
      have zR := KR.out.frozen
      have HNB := Lib.hid (HFA.out.off KR.out (by decide))
      have HNF := Lib.hid (HFB.out.off KR.out (by decide))
      go_wp2
      exact bodyPost_ret (v := .agg #[.slice A t.buckets.length c, .slice B t.frames.length d]) (by simp [results, Tryd.results12, go_sem, *]) rfl
        ⟨t, A, c, B, d, p1, rfl, HSM.out, by repeat' (first | with_reducible exact HFA.out | with_reducible refine Fr.put ?_ HNB.out _), by repeat' (first | with_reducible exact HFB.out | with_reducible refine Fr.put ?_ HNF.out _), Rdr.chg (lo := w.heap.size) (hi := w.heap.size + 1) HRD.out (by repeat' (first | with_reducible exact Chg.refl _ _ wr | with_reducible refine Chg.alloc ?_ _ | with_reducible refine Chg.drew ?_ | with_reducible refine Chg.set ?_ (by omega) _)) (by omega), by omega, Chg.grown (by repeat' (first | with_reducible exact Ewr.out | with_reducible refine Chg.alloc ?_ _ | with_reducible refine Chg.drew ?_ | with_reducible refine Chg.set ?_ (by omega) _))⟩
    have hlt' : (0 : Int) < (k : Int) := by omega
    have hkk : (k : Int) - 1 = ((k - 1 : Nat) : Int) := by omega
    have HKK := Lib.hid hkk
    clear hkk
    have hnf : (1 : Int) ≤ (t.frames.length : Int) := by omega
    have HGR : Hid (∀ b, some g = some b → g ≤ b ∧ b < g + 1) := Lib.hid (fun b hb => by injection hb with hb; omega)
    have FK : Hid (∀ w', Chg g (g + 1) wr w' → (w'.cell? ⟨gO, 0, none⟩ = some (.slice A t.buckets.length c) ∧ w'.cell? ⟨gO, 1, none⟩ = some (.slice B t.frames.length d))) := Lib.hid (fun w' h => (KO.out.chg h (by omega)).c2)
    have WHA := Lib.hid HFA.out.row
    have WHB := Lib.hid HFB.out.row
    have FA : Hid (∀ v, Chg g (g + 1) wr v → Fr 3 v w.heap.size A c t.buckets) := Lib.hid (fun v h => HFA.out.chg h WHA.out (by omega))
    have FB : Hid (∀ v, Chg g (g + 1) wr v → Fr 47 v w.heap.size B d t.frames) := Lib.hid (fun v h => HFB.out.chg h WHB.out (by omega))
    have CK : Hid (∀ v, Rdr v g p1 → Calls Tryd.prog 30 #[.pointer (some ⟨g, 0, none⟩)] v (SomeKey g p1 v)) := Lib.hid (fun v h => l2Draw_c g p1 v h (by omega))
    have CP : Hid (∀ v, Rdr v g (p1 + 2) → Calls Tryd.prog 29 #[.pointer (some ⟨g, 0, none⟩), .int .i64 (t.frames.length : Int)] v (Picked g (p1 + 2) (t.frames.length : Int) v)) := Lib.hid (fun v h => pick_c g (p1 + 2) _ v h (by omega) (by omega))
    have CN : Hid (∀ (b : Nat) (v : World), Rdr v g (p1 + 2 + 1) → Rd v (some ⟨b, 0, none⟩) ([3, 1, 7, 5, 0] : List Int) → b ≠ g → Calls Tryd.prog 13 #[.pointer (some ⟨g, 0, none⟩), .slice (some ⟨b, 0, none⟩) 5 5] v (Chosen g (p1 + 2 + 1) [3, 1, 7, 5, 0] v)) := Lib.hid (fun b v h1 h2 h3 => num_c g (p1 + 2 + 1) b 0 5 [3, 1, 7, 5, 0] v h1 h2 (by simp) (by simp) (by omega) h3)
    have CM : Hid (∀ (q : KeyD) (i : Nat) (rt : Int) (v : World), Chg g (g + 1) wr v → keyOk q → (0 ≤ rt ∧ rt < 8) → i < t.frames.length → Calls Tryd.prog 31 #[.agg #[.slice A t.buckets.length c, .slice B t.frames.length d], .agg #[.int .i64 q.space, .int .i64 q.page], .int .i64 i, .int .i64 rt] v (fun e v' => ∃ (n : TableD) (ok : Bool) (A' : Option Addr) (c' : Nat) (B' : Option Addr) (d' : Nat), e = .returned (.tuple #[.agg #[.slice A' n.buckets.length c', .slice B' n.frames.length d'], .bool ok]) ∧ (ok = true → SmallT n) ∧ Fr 3 v' v.heap.size A' c' n.buckets ∧ Fr 47 v' v.heap.size B' d' n.frames ∧ Ex v v')) := Lib.hid (fun q i rt v hc hq hr hi => (mapPageS_c t A c B d q i rt v (FA.out v hc).rd (FB.out v hc).rd HFA.out.le HFB.out.le HFA.out.cap HFB.out.cap HSM.out.1 hq hr hi).mono (by rintro e v' ⟨A', c', B', d', he, h1, h2, h3⟩; exact ⟨_, _, A', c', B', d', he, fun hk => mapT_small HSM.out hq hr hi hk, h1, h2, h3⟩))
    have HLA : Hid (∀ v : World, Rd (v.alloc (.cells #[.int .i64 3, .int .i64 1, .int .i64 7, .int .i64 5, .int .i64 0] 3)) (some ⟨v.heap.size, 0, none⟩) ([3, 1, 7, 5, 0] : List Int)) := Lib.hid (fun v => Rd.lits v _ _)
    have HTA : Hid (∀ v : World, Blk (v.alloc (.cells #[.slice none 0 0, .slice none 0 0] 26)) v.heap.size 26 [.slice none 0 0, .slice none 0 0]) := Lib.hid (fun v => Blk.new v _ _)
    have HLA2 : Hid (∀ (v : World) (o : Obj), Rd ((v.alloc o).alloc (.cells #[.int .i64 3, .int .i64 1, .int .i64 7, .int .i64 5, .int .i64 0] 3)) (some ⟨v.heap.size + 1, 0, none⟩) ([3, 1, 7, 5, 0] : List Int)) := Lib.hid (fun v o => Rd.lits_at _ _ _ (by simp))
    have HTA2 : Hid (∀ (v : World) (o : Obj), Blk ((v.alloc o).alloc (.cells #[.slice none 0 0, .slice none 0 0] 26)) (v.heap.size + 1) 26 [.slice none 0 0, .slice none 0 0]) := Lib.hid (fun v o => Blk.new_at _ _ _ (by simp))
    have lO := KO.out.lt
    go_upto_region 5 with fail
    go_cut [6, 7] (fun s6 s7 wx => Step3 g (p1 + 2 + 1 + 1) wr s6 s7 wx)
    case first =>
      go_region_held3 (fun w' => (w'.cell? ⟨gO, 0, none⟩ = some (.slice A t.buckets.length c) ∧ w'.cell? ⟨gO, 1, none⟩ = some (.slice B t.frames.length d))) (first | (refine FK.out _ ?_; with_reducible (first | exact Chg.refl _ _ _ | exact (Chg.refl _ _ _).drew | exact ((Chg.refl _ _ _).alloc _).drew | exact (((Chg.refl _ _ _).alloc _).alloc _).drew | exact hC1 | exact hC1.alloc _ | exact (hC1.alloc _).alloc _ | exact hC2 | exact hC2.alloc _ | exact (hC2.alloc _).alloc _ | exact hC3 | exact hC3.alloc _ | exact (hC3.alloc _).alloc _ | exact hC4 | exact hC4.alloc _ | exact (hC4.alloc _).alloc _ | exact (hC4.set (.inr hz1) _).set (.inr hz1) _ | exact (hC4.set (.inr hz2) _).set (.inr hz2) _ | exact (hC4.set (.inr hz3) _).set (.inr hz3) _ | exact (hC4.set (.inr (Nat.le_refl _)) _).set (.inr (Nat.le_refl _)) _ | exact (hC4.set (.inr (Nat.le_add_right_of_le hz1)) _).set (.inr (Nat.le_add_right_of_le hz1)) _ | exact (hC4.set (.inr (Nat.le_add_right_of_le hz2)) _).set (.inr (Nat.le_add_right_of_le hz2)) _ | exact (hC4.set (.inr (Nat.le_add_right_of_le hz3)) _).set (.inr (Nat.le_add_right_of_le hz3)) _ | exact (hC4.set (.inr (Nat.le_add_right _ _)) _).set (.inr (Nat.le_add_right _ _)) _)) | go_keep) (first
        | (go_at_call 30; (with_reducible refine (CK.out _ ?_).mono ?_); (repeat' (first | with_reducible exact HRD.out | with_reducible refine Rdr.alloc ?_ _ | with_reducible refine Rdr.drew ?_)); rintro r w1 ⟨k1, rfl, hk1, hr1, hg1⟩; have hC1 : Chg g (g + 1) wr w1 := Chg.trans (by repeat' (first | with_reducible exact Chg.refl _ _ _ | with_reducible exact hC1 | with_reducible refine Chg.alloc ?_ _ | with_reducible refine Chg.drew ?_)) (Chg.of_grown hg1 HGR.out); have hz1 := hC1.size; (first | (with_reducible (have hL := Rd.past ((HLA2.out _ _).drew) hg1 (by omega))) | (with_reducible (have hL := Rd.past ((HLA.out _).drew) hg1 (by omega))) | (with_reducible (have hL := Rd.past (((HLA.out _).alloc _).drew) hg1 (by omega))) | skip); (first | (with_reducible (have hT := Blk.past ((HTA2.out _ _).drew) hg1 (by omega))) | (with_reducible (have hT := Blk.past ((HTA.out _).drew) hg1 (by omega))) | (with_reducible (have hT := Blk.past (((HTA.out _).alloc _).drew) hg1 (by omega))) | skip))
        | (go_at_call 29; (with_reducible refine (CP.out _ ?_).mono ?_); (repeat' (first | with_reducible exact hr1 | with_reducible refine Rdr.alloc ?_ _ | with_reducible refine Rdr.drew ?_)); rintro r w2 ⟨v2, rfl, hv2, hr2, hg2⟩; obtain ⟨i2, rfl⟩ := Int.eq_ofNat_of_zero_le hv2.1; have hi2 := hv2.2.1 hnf; have hC2 : Chg g (g + 1) wr w2 := Chg.trans (by repeat' (first | with_reducible exact Chg.refl _ _ _ | with_reducible exact hC1 | with_reducible refine Chg.alloc ?_ _ | with_reducible refine Chg.drew ?_)) (Chg.of_grown hg2 HGR.out); have hz2 := hC2.size; (first | (with_reducible (have hL := Rd.past hL hg2 (by omega))) | (with_reducible (have hL := Rd.past (hL.alloc _) hg2 (by omega))) | (with_reducible (have hL := Rd.past (HLA2.out _ _) hg2 (by omega))) | (with_reducible (have hL := Rd.past (HLA.out _) hg2 (by omega))) | (with_reducible (have hL := Rd.past ((HLA.out _).alloc _) hg2 (by omega))) | skip); (first | (with_reducible (have hT := Blk.past hT hg2 (by omega))) | (with_reducible (have hT := Blk.past (hT.alloc _) hg2 (by omega))) | (with_reducible (have hT := Blk.past (HTA2.out _ _) hg2 (by omega))) | (with_reducible (have hT := Blk.past (HTA.out _) hg2 (by omega))) | (with_reducible (have hT := Blk.past ((HTA.out _).alloc _) hg2 (by omega))) | skip))
        | (go_at_call 13; (with_reducible refine (CN.out _ _ ?_ ?_ ?_).mono ?_); (repeat' (first | with_reducible exact hr2 | with_reducible refine Rdr.alloc ?_ _ | with_reducible refine Rdr.drew ?_)); (first | (with_reducible exact hL) | (with_reducible exact (hL.alloc _)) | (with_reducible exact (HLA2.out _ _)) | (with_reducible exact (HLA.out _)) | (with_reducible exact ((HLA.out _).alloc _))); (omega); rintro r w3 ⟨v3, rfl, hv3, hr3, hg3⟩; have hC3 : Chg g (g + 1) wr w3 := Chg.trans (by repeat' (first | with_reducible exact Chg.refl _ _ _ | with_reducible exact hC2 | with_reducible refine Chg.alloc ?_ _ | with_reducible refine Chg.drew ?_)) (Chg.of_grown hg3 HGR.out); have hz3 := hC3.size; (first | (with_reducible (have hT := Blk.past hT hg3 (by omega))) | (with_reducible (have hT := Blk.past (hT.alloc _) hg3 (by omega))) | (with_reducible (have hT := Blk.past (HTA2.out _ _) hg3 (by omega))) | (with_reducible (have hT := Blk.past (HTA.out _) hg3 (by omega))) | (with_reducible (have hT := Blk.past ((HTA.out _).alloc _) hg3 (by omega))) | skip))
        | (go_at_call 31; (with_reducible refine (CM.out k1 i2 v3 _ ?_ hk1 ?_ ?_).mono ?_); (repeat' (first | with_reducible exact Chg.refl _ _ _ | with_reducible exact hC3 | with_reducible refine Chg.alloc ?_ _ | with_reducible refine Chg.drew ?_)); (simp at hv3; omega); (omega); rintro r w4 ⟨n, ok, A4, c4, B4, d4, rfl, hok, hfa, hfb, hb4⟩; have hC4 : Chg g (g + 1) wr w4 := Chg.trans (by repeat' (first | with_reducible exact Chg.refl _ _ _ | with_reducible exact hC3 | with_reducible refine Chg.alloc ?_ _ | with_reducible refine Chg.drew ?_)) ((Chg.of_ex hb4).mono' _ _); have hr4 : Rdr w4 g (p1 + 2 + 1 + 1) := Rdr.ex (by repeat' (first | with_reducible exact hr3 | with_reducible refine Rdr.alloc ?_ _ | with_reducible refine Rdr.drew ?_)) hb4; (first | (with_reducible (have hT := Blk.ex hT hb4)) | (with_reducible (have hT := Blk.ex (hT.alloc _) hb4)) | (with_reducible (have hT := Blk.ex (HTA2.out _ _) hb4)) | (with_reducible (have hT := Blk.ex (HTA.out _) hb4)) | (with_reducible (have hT := Blk.ex ((HTA.out _).alloc _) hb4)) | skip); (first | (obtain ⟨h0, h1⟩ := hT.c2; have hfz := hT.frozen; have hlt4 := hT.lt) | skip)))
      all_goals (go_wp2_with fail; go_meet)
      all_goals
        have hz4 := hC4.size
        first
        | (refine ⟨w4.heap.size, n, ok, A4, c4, B4, d4, ?hp, rfl, hok, Blk.new _ _ _, Fr.mono (hfa.alloc _) ?h1, Fr.mono (hfb.alloc _) ?h2, hr4.alloc _, hC4.alloc _, hz4⟩
           case hp => with_reducible rfl
           case h1 => first | exact hz3 | omega | (simp; omega)
           case h2 => first | exact hz3 | omega | (simp; omega))
        | (have hoa := hfa.off hT (by decide)
           have hob := hfb.off hT (by decide)
           refine ⟨_, n, ok, A4, c4, B4, d4, ?hp, rfl, hok, Blk.put2 hT, Fr.mono ((hfa.put hoa _).put hoa _) ?h1, Fr.mono ((hfb.put hob _).put hob _) ?h2, Rdr.put2 hr4 ?h3, (hC4.set (.inr ?h4) _).set (.inr ?h5) _, ?h6⟩
           case hp => with_reducible rfl
           case h1 => first | exact hz3 | omega | (simp; omega)
           case h2 => first | exact hz3 | omega | (simp; omega)
           case h3 => omega
           case h4 => first | omega | (simp only; omega)
           case h5 => first | omega | (simp only; omega)
           case h6 => omega)
    case rest =>
      obtain ⟨gN, n, ok, A6, c6, B6, d6, rfl, rfl, hok, hkn, hf6, hf6b, hr6, hc6, hgN⟩ := hcut
      have HOK := Lib.hid hok
      have KN := Lib.hid hkn
      have HF6 := Lib.hid hf6
      have HF6B := Lib.hid hf6b
      have WHF6 := Lib.hid HF6.out.row
      have WHF6B := Lib.hid HF6B.out.row
      have HRD6 := Lib.hid hr6
      have Y6 := Lib.hid hc6
      have WHFA := WHA
      have WHFB := WHB
      have hlN := hkn.lt
      clear hok hkn hf6 hf6b hr6 hc6 FA FB CK CP CN CM HLA HTA HLA2 HTA2 FK WHA WHB
      obtain ⟨qO0, qO1⟩ := KO.out.c2
      have jO := KO.out.lt
      obtain ⟨qR0, qR1⟩ := KR.out.c2
      have jR := KR.out.lt
      have s6 : wr.heap.size ≤ wc.heap.size := Y6.out.size
      have Ewc : Hid (Chg g (g + 1) w wc) := Lib.hid (Ewr.out.step Y6.out (by omega))
      clear qO0 qO1 jO
      clear qR0 qR1 jR
      replace KO := Lib.hid (KO.out.chg Y6.out (by omega))
      replace KR := Lib.hid (KR.out.chg Y6.out (by omega))
      replace HFA := Lib.hid (HFA.out.chg Y6.out WHFA.out (by omega))
      replace HFB := Lib.hid (HFB.out.chg Y6.out WHFB.out (by omega))
      obtain ⟨qO0, qO1⟩ := KO.out.c2
      have jO := KO.out.lt
      obtain ⟨qR0, qR1⟩ := KR.out.c2
      have jR := KR.out.lt
      obtain ⟨qN0, qN1⟩ := KN.out.c2
      have jN := KN.out.lt
      have zO := KO.out.frozen
      have zN := KN.out.frozen
      have hON : ¬ gO = gN := by omega
      have hNO : ¬ gN = gO := by omega
      have hNg : ¬ gN = g := by omega
      cases ok
      · have HSQ : Hid (SmallT t) := Lib.hid HSM.out
        have hTQ := HSQ.out.1.1
        unfold TableHead at hTQ
        go_wp2_with fail
        refine name_calls ?_; intro v7 hv7
        have X7 : Hid (Chg (0) (0) wc v7) := Lib.hid (by rw [hv7]; repeat' (first | with_reducible exact Chg.refl _ _ _ | with_reducible refine Chg.alloc ?_ _ | with_reducible refine Chg.drew ?_ | with_reducible refine Chg.set ?_ (by omega) _))
        have t7 : wc.heap.size ≤ v7.heap.size := X7.out.size
        have Ev7 : Hid (Chg g (g + 1) w v7) := Lib.hid (Ewc.out.step X7.out (by omega))
        clear qO0 qO1 jO zO
        clear qR0 qR1 jR
        clear qN0 qN1 jN zN
        replace KO := Lib.hid (KO.out.chg X7.out (by omega))
        replace KR := Lib.hid (KR.out.chg X7.out (by omega))
        replace KN := Lib.hid (KN.out.chg X7.out (by omega))
        replace HFA := Lib.hid (HFA.out.chg X7.out WHFA.out (by omega))
        replace HFB := Lib.hid (HFB.out.chg X7.out WHFB.out (by omega))
        replace HF6 := Lib.hid (HF6.out.chg X7.out WHF6.out (by omega))
        replace HF6B := Lib.hid (HF6B.out.chg X7.out WHF6B.out (by omega))
        replace HRD6 := Lib.hid (HRD6.out.chg X7.out (by omega))
        clear hv7
        refine (pick_c g (p1 + 2 + 1 + 1) 8 _ HRD6.out (by omega) (by omega)).mono ?_; rintro r w7 ⟨z7, rfl, hh7, hrd7, hb7⟩
        have Y7 : Hid (Chg (g) (g + 1) v7 w7) := Lib.hid (Chg.of_grown hb7 (fun b hb => by injection hb with hb; omega))
        have s7 : v7.heap.size ≤ w7.heap.size := Y7.out.size
        have Ew7 : Hid (Chg g (g + 1) w w7) := Lib.hid (Ev7.out.step Y7.out (by omega))
        clear hb7
        replace KO := Lib.hid (KO.out.chg Y7.out (by omega))
        replace KR := Lib.hid (KR.out.chg Y7.out (by omega))
        replace KN := Lib.hid (KN.out.chg Y7.out (by omega))
        replace HFA := Lib.hid (HFA.out.chg Y7.out WHFA.out (by omega))
        replace HFB := Lib.hid (HFB.out.chg Y7.out WHFB.out (by omega))
        replace HF6 := Lib.hid (HF6.out.chg Y7.out WHF6.out (by omega))
        replace HF6B := Lib.hid (HF6B.out.chg Y7.out WHF6B.out (by omega))
        clear HRD6
        have HRD7 := Lib.hid hrd7; clear hrd7
        have HH7 := Lib.hid hh7; clear hh7
        obtain ⟨qO0, qO1⟩ := KO.out.c2
        have jO := KO.out.lt
        have zO := KO.out.frozen
        obtain ⟨qR0, qR1⟩ := KR.out.c2
        have jR := KR.out.lt
        obtain ⟨qN0, qN1⟩ := KN.out.c2
        have jN := KN.out.lt
        have zN := KN.out.frozen
        by_cases hz : z7 = 0
        rotate_left
        · have hz' : (z7 == 0) = false := by simp [hz]
          clear hz
          go_wp2
          go_roundw
          case rel => exact ⟨k - 1, t, A, c, B, d, p1 + 2 + 1 + 1 + 1, by first | rfl | (rw [HKK.out]), by omega, HSQ.out, KO.out, HFA.out.mono (by omega), HFB.out.mono (by omega), HRD7.out, by omega, Ew7.out, KR.out⟩
          case measure => simp [intOf]; omega
        have hz' : (z7 == 0) = true := by simp [hz]
        clear hz
        have FK : Hid (∀ w', Chg g (g + 1) w7 w' → (w'.cell? ⟨gO, 0, none⟩ = some (.slice A t.buckets.length c) ∧ w'.cell? ⟨gO, 1, none⟩ = some (.slice B t.frames.length d))) := Lib.hid (fun w' h => (KO.out.chg h (by omega)).c2)
        have FN : Hid (∀ w', Chg g (g + 1) w7 w' → Blk w' gN 26 [.slice A6 n.buckets.length c6, .slice B6 n.frames.length d6]) := Lib.hid (fun w' h => KN.out.chg h (by omega))
        have FA : Hid (∀ v, Chg g (g + 1) w7 v → Fr 3 v w.heap.size A c t.buckets) := Lib.hid (fun v h => (HFA.out.chg h WHFA.out (by omega)).mono (by omega))
        have FB : Hid (∀ v, Chg g (g + 1) w7 v → Fr 47 v w.heap.size B d t.frames) := Lib.hid (fun v h => (HFB.out.chg h WHFB.out (by omega)).mono (by omega))
        have CK : Hid (∀ v, Rdr v g (p1 + 2 + 1 + 1 + 1) → Calls Tryd.prog 30 #[.pointer (some ⟨g, 0, none⟩)] v (SomeKey g (p1 + 2 + 1 + 1 + 1) v)) := Lib.hid (fun v h => l2Draw_c g _ v h (by omega))
        have CU : Hid (∀ (q : KeyD) (v : World), Chg g (g + 1) w7 v → keyOk q → Calls Tryd.prog 32 #[.agg #[.slice A t.buckets.length c, .slice B t.frames.length d], .agg #[.int .i64 q.space, .int .i64 q.page]] v (fun e v' => ∃ (x : TableD) (ok : Bool) (A' : Option Addr) (c' : Nat) (B' : Option Addr) (d' : Nat), e = .returned (.tuple #[.agg #[.slice A' x.buckets.length c', .slice B' x.frames.length d'], .bool ok]) ∧ (ok = true → SmallT x) ∧ Fr 3 v' v.heap.size A' c' x.buckets ∧ Fr 47 v' v.heap.size B' d' x.frames ∧ Ex v v')) := Lib.hid (fun q v hc hq => (unmapS_c t A c B d q v (FA.out v hc).rd (FB.out v hc).rd HFA.out.le HFB.out.le HFA.out.cap HFB.out.cap HSQ.out.1 hq).mono (by rintro e v' ⟨A', c', B', d', he, h1, h2, h3⟩; exact ⟨_, _, A', c', B', d', he, fun hk => unmapT_small HSQ.out hk, h1, h2, h3⟩))
        have HG7 : Hid (w7.heap.size ≤ w7.heap.size ∧ w.heap.size ≤ w7.heap.size) := Lib.hid (by omega)
        clear qO0 qO1 jO zO qN0 qN1 jN zN
        go_wp2_with fail
        go_region_held3 (fun w' => (w'.cell? ⟨gO, 0, none⟩ = some (.slice A t.buckets.length c) ∧ w'.cell? ⟨gO, 1, none⟩ = some (.slice B t.frames.length d))) (first | (refine FK.out _ ?_; with_reducible (first | exact Chg.refl _ _ _ | exact (Chg.refl _ _ _).drew | exact hC8 | exact hC9)) | go_keep) (first
          | (go_at_call 30; (with_reducible refine (CK.out _ ?_).mono ?_); (exact Rdr.drew HRD7.out); rintro r w8 ⟨k8, rfl, hk8, hr8, hg8⟩; have hC8 : Chg g (g + 1) w7 w8 := Chg.trans (Chg.refl _ _ _).drew (Chg.of_grown hg8 HGR.out))
          | (go_at_call 32; (with_reducible refine (CU.out k8 _ hC8 hk8).mono ?_); rintro r w9 ⟨x, ok9, A9, c9, B9, d9, rfl, hok9, hf9, hf9b, hb9⟩; have hC9 : Chg g (g + 1) w7 w9 := hC8.trans ((Chg.of_ex hb9).mono' _ _); have hr9 := hr8.ex hb9; have hn9 := FN.out _ hC9; obtain ⟨n0, n1⟩ := hn9.c2; have nz := hn9.frozen; have nl := hn9.lt; obtain ⟨o0, o1⟩ := FK.out _ hC9))
        rename_i hHeld
        clear hHeld
        have hs9 := hC9.size
        have hs8 := hC8.size
        have KO9 := Lib.hid (KO.out.chg hC9 (by omega))
        have KR9 := Lib.hid (KR.out.chg hC9 (by omega))
        have E9 : Hid (Chg g (g + 1) w w9) := Lib.hid (Ew7.out.trans hC9)
        have FA9 := Lib.hid (FA.out _ hC9)
        have FB9 := Lib.hid (FB.out _ hC9)
        have OA9 := Lib.hid (FA9.out.off hn9 (by decide))
        have OB9 := Lib.hid (FB9.out.off hn9 (by decide))
        have PA9 := Lib.hid (hf9.off hn9 (by decide))
        have PB9 := Lib.hid (hf9b.off hn9 (by decide))
        have QA9 := Lib.hid (hf9.off KO9.out (by decide))
        have QB9 := Lib.hid (hf9b.off KO9.out (by decide))
        have HF9 := Lib.hid hf9
        have HF9B := Lib.hid hf9b
        have HR9 := Lib.hid hr9
        have HOK9 := Lib.hid hok9
        have oz := KO9.out.frozen
        have ol := KO9.out.lt
        clear hn9 hf9 hf9b hr9 hok9 hC9 hC8
        cases ok9
        · go_wp2
          go_roundw
          case rel => exact ⟨k - 1, t, A, c, B, d, p1 + 2 + 1 + 1 + 1 + 2, by first | rfl | (rw [HKK.out]), by omega, HSQ.out, by repeat' (first | with_reducible exact KO9.out | with_reducible refine Blk.far ?_ (by simp only; omega) _), by repeat' (first | with_reducible exact FA9.out | with_reducible refine Fr.put ?_ OA9.out _), by repeat' (first | with_reducible exact FB9.out | with_reducible refine Fr.put ?_ OB9.out _), Rdr.put2 HR9.out (by omega), by omega, (by repeat' (first | with_reducible exact E9.out | with_reducible refine Chg.alloc ?_ _ | with_reducible refine Chg.drew ?_ | with_reducible refine Chg.set ?_ (by omega) _)), by repeat' (first | with_reducible exact KR9.out | with_reducible refine Blk.far ?_ (by simp only; omega) _)⟩
          case measure => simp [intOf]; omega
        · have HSX := Lib.hid (HOK9.out (by simp))
          go_wp2
          go_roundw
          case rel => exact ⟨k - 1, x, A9, c9, B9, d9, p1 + 2 + 1 + 1 + 1 + 2, by first | rfl | (rw [HKK.out]), by omega, HSX.out, Blk.put2 (by repeat' (first | with_reducible exact KO9.out | with_reducible refine Blk.far ?_ (by simp only; omega) _)), Fr.mono (B := w8.heap.size) (by repeat' (first | with_reducible exact HF9.out | with_reducible refine Fr.put ?_ PA9.out _ | with_reducible refine Fr.put ?_ QA9.out _)) (Nat.le_trans HG7.out.2 hs8), Fr.mono (B := w8.heap.size) (by repeat' (first | with_reducible exact HF9B.out | with_reducible refine Fr.put ?_ PB9.out _ | with_reducible refine Fr.put ?_ QB9.out _)) (Nat.le_trans HG7.out.2 hs8), Rdr.put2 (Rdr.put2 HR9.out (by omega)) (by omega), by omega, (by repeat' (first | with_reducible exact E9.out | with_reducible refine Chg.alloc ?_ _ | with_reducible refine Chg.drew ?_ | with_reducible refine Chg.set ?_ (by omega) _)), by repeat' (first | with_reducible exact KR9.out | with_reducible refine Blk.far ?_ (by simp only; omega) _)⟩
          case measure => simp [intOf]; omega
      have HSQ : Hid (SmallT n) := Lib.hid (HOK.out (by simp))
      have hTQ := HSQ.out.1.1
      unfold TableHead at hTQ
      clear HFA WHFA
      clear HFB WHFB
      go_wp2_with fail
      refine name_calls ?_; intro v7 hv7
      have X7 : Hid (Chg (gO) (gO + 1) wc v7) := Lib.hid (by rw [hv7]; repeat' (first | with_reducible exact Chg.refl _ _ _ | with_reducible refine Chg.alloc ?_ _ | with_reducible refine Chg.drew ?_ | with_reducible refine Chg.set ?_ (by omega) _))
      have t7 : wc.heap.size ≤ v7.heap.size := X7.out.size
      have Ev7 : Hid (Chg g (g + 1) w v7) := Lib.hid (Ewc.out.step X7.out (by omega))
      clear qO0 qO1 jO zO
      clear qR0 qR1 jR
      clear qN0 qN1 jN zN
      replace KO : Hid (Blk v7 (gO) 26 [.slice A6 n.buckets.length c6, .slice B6 n.frames.length d6]) := Lib.hid (by rw [hv7]; exact Blk.put2 KO.out)
      replace KR := Lib.hid (KR.out.chg X7.out (by omega))
      replace KN := Lib.hid (KN.out.chg X7.out (by omega))
      replace HF6 := Lib.hid (HF6.out.chg X7.out WHF6.out (by omega))
      replace HF6B := Lib.hid (HF6B.out.chg X7.out WHF6B.out (by omega))
      replace HRD6 := Lib.hid (HRD6.out.chg X7.out (by omega))
      clear hv7
      refine (pick_c g (p1 + 2 + 1 + 1) 8 _ HRD6.out (by omega) (by omega)).mono ?_; rintro r w7 ⟨z7, rfl, hh7, hrd7, hb7⟩
      have Y7 : Hid (Chg (g) (g + 1) v7 w7) := Lib.hid (Chg.of_grown hb7 (fun b hb => by injection hb with hb; omega))
      have s7 : v7.heap.size ≤ w7.heap.size := Y7.out.size
      have Ew7 : Hid (Chg g (g + 1) w w7) := Lib.hid (Ev7.out.step Y7.out (by omega))
      clear hb7
      replace KO := Lib.hid (KO.out.chg Y7.out (by omega))
      replace KR := Lib.hid (KR.out.chg Y7.out (by omega))
      replace KN := Lib.hid (KN.out.chg Y7.out (by omega))
      replace HF6 := Lib.hid (HF6.out.chg Y7.out WHF6.out (by omega))
      replace HF6B := Lib.hid (HF6B.out.chg Y7.out WHF6B.out (by omega))
      clear HRD6
      have HRD7 := Lib.hid hrd7; clear hrd7
      have HH7 := Lib.hid hh7; clear hh7
      obtain ⟨qO0, qO1⟩ := KO.out.c2
      have jO := KO.out.lt
      have zO := KO.out.frozen
      obtain ⟨qR0, qR1⟩ := KR.out.c2
      have jR := KR.out.lt
      obtain ⟨qN0, qN1⟩ := KN.out.c2
      have jN := KN.out.lt
      have zN := KN.out.frozen
      by_cases hz : z7 = 0
      rotate_left
      · have hz' : (z7 == 0) = false := by simp [hz]
        clear hz
        go_wp2
        go_roundw
        case rel => exact ⟨k - 1, n, A6, c6, B6, d6, p1 + 2 + 1 + 1 + 1, by first | rfl | (rw [HKK.out]), by omega, HSQ.out, KO.out, HF6.out.mono (by omega), HF6B.out.mono (by omega), HRD7.out, by omega, Ew7.out, KR.out⟩
        case measure => simp [intOf]; omega
      have hz' : (z7 == 0) = true := by simp [hz]
      clear hz
      have FK : Hid (∀ w', Chg g (g + 1) w7 w' → (w'.cell? ⟨gO, 0, none⟩ = some (.slice A6 n.buckets.length c6) ∧ w'.cell? ⟨gO, 1, none⟩ = some (.slice B6 n.frames.length d6))) := Lib.hid (fun w' h => (KO.out.chg h (by omega)).c2)
      have FN : Hid (∀ w', Chg g (g + 1) w7 w' → Blk w' gN 26 [.slice A6 n.buckets.length c6, .slice B6 n.frames.length d6]) := Lib.hid (fun w' h => KN.out.chg h (by omega))
      have FA : Hid (∀ v, Chg g (g + 1) w7 v → Fr 3 v w.heap.size A6 c6 n.buckets) := Lib.hid (fun v h => (HF6.out.chg h WHF6.out (by omega)).mono (by omega))
      have FB : Hid (∀ v, Chg g (g + 1) w7 v → Fr 47 v w.heap.size B6 d6 n.frames) := Lib.hid (fun v h => (HF6B.out.chg h WHF6B.out (by omega)).mono (by omega))
      have CK : Hid (∀ v, Rdr v g (p1 + 2 + 1 + 1 + 1) → Calls Tryd.prog 30 #[.pointer (some ⟨g, 0, none⟩)] v (SomeKey g (p1 + 2 + 1 + 1 + 1) v)) := Lib.hid (fun v h => l2Draw_c g _ v h (by omega))
      have CU : Hid (∀ (q : KeyD) (v : World), Chg g (g + 1) w7 v → keyOk q → Calls Tryd.prog 32 #[.agg #[.slice A6 n.buckets.length c6, .slice B6 n.frames.length d6], .agg #[.int .i64 q.space, .int .i64 q.page]] v (fun e v' => ∃ (x : TableD) (ok : Bool) (A' : Option Addr) (c' : Nat) (B' : Option Addr) (d' : Nat), e = .returned (.tuple #[.agg #[.slice A' x.buckets.length c', .slice B' x.frames.length d'], .bool ok]) ∧ (ok = true → SmallT x) ∧ Fr 3 v' v.heap.size A' c' x.buckets ∧ Fr 47 v' v.heap.size B' d' x.frames ∧ Ex v v')) := Lib.hid (fun q v hc hq => (unmapS_c n A6 c6 B6 d6 q v (FA.out v hc).rd (FB.out v hc).rd HF6.out.le HF6B.out.le HF6.out.cap HF6B.out.cap HSQ.out.1 hq).mono (by rintro e v' ⟨A', c', B', d', he, h1, h2, h3⟩; exact ⟨_, _, A', c', B', d', he, fun hk => unmapT_small HSQ.out hk, h1, h2, h3⟩))
      have HG7 : Hid (w7.heap.size ≤ w7.heap.size ∧ w.heap.size ≤ w7.heap.size) := Lib.hid (by omega)
      clear qO0 qO1 jO zO qN0 qN1 jN zN
      go_wp2_with fail
      go_region_held3 (fun w' => (w'.cell? ⟨gO, 0, none⟩ = some (.slice A6 n.buckets.length c6) ∧ w'.cell? ⟨gO, 1, none⟩ = some (.slice B6 n.frames.length d6))) (first | (refine FK.out _ ?_; with_reducible (first | exact Chg.refl _ _ _ | exact (Chg.refl _ _ _).drew | exact hC8 | exact hC9)) | go_keep) (first
        | (go_at_call 30; (with_reducible refine (CK.out _ ?_).mono ?_); (exact Rdr.drew HRD7.out); rintro r w8 ⟨k8, rfl, hk8, hr8, hg8⟩; have hC8 : Chg g (g + 1) w7 w8 := Chg.trans (Chg.refl _ _ _).drew (Chg.of_grown hg8 HGR.out))
        | (go_at_call 32; (with_reducible refine (CU.out k8 _ hC8 hk8).mono ?_); rintro r w9 ⟨x, ok9, A9, c9, B9, d9, rfl, hok9, hf9, hf9b, hb9⟩; have hC9 : Chg g (g + 1) w7 w9 := hC8.trans ((Chg.of_ex hb9).mono' _ _); have hr9 := hr8.ex hb9; have hn9 := FN.out _ hC9; obtain ⟨n0, n1⟩ := hn9.c2; have nz := hn9.frozen; have nl := hn9.lt; obtain ⟨o0, o1⟩ := FK.out _ hC9))
      rename_i hHeld
      clear hHeld
      have hs9 := hC9.size
      have hs8 := hC8.size
      have KO9 := Lib.hid (KO.out.chg hC9 (by omega))
      have KR9 := Lib.hid (KR.out.chg hC9 (by omega))
      have E9 : Hid (Chg g (g + 1) w w9) := Lib.hid (Ew7.out.trans hC9)
      have FA9 := Lib.hid (FA.out _ hC9)
      have FB9 := Lib.hid (FB.out _ hC9)
      have OA9 := Lib.hid (FA9.out.off hn9 (by decide))
      have OB9 := Lib.hid (FB9.out.off hn9 (by decide))
      have PA9 := Lib.hid (hf9.off hn9 (by decide))
      have PB9 := Lib.hid (hf9b.off hn9 (by decide))
      have QA9 := Lib.hid (hf9.off KO9.out (by decide))
      have QB9 := Lib.hid (hf9b.off KO9.out (by decide))
      have HF9 := Lib.hid hf9
      have HF9B := Lib.hid hf9b
      have HR9 := Lib.hid hr9
      have HOK9 := Lib.hid hok9
      have oz := KO9.out.frozen
      have ol := KO9.out.lt
      clear hn9 hf9 hf9b hr9 hok9 hC9 hC8
      cases ok9
      · go_wp2
        go_roundw
        case rel => exact ⟨k - 1, n, A6, c6, B6, d6, p1 + 2 + 1 + 1 + 1 + 2, by first | rfl | (rw [HKK.out]), by omega, HSQ.out, by repeat' (first | with_reducible exact KO9.out | with_reducible refine Blk.far ?_ (by simp only; omega) _), by repeat' (first | with_reducible exact FA9.out | with_reducible refine Fr.put ?_ OA9.out _), by repeat' (first | with_reducible exact FB9.out | with_reducible refine Fr.put ?_ OB9.out _), Rdr.put2 HR9.out (by omega), by omega, (by repeat' (first | with_reducible exact E9.out | with_reducible refine Chg.alloc ?_ _ | with_reducible refine Chg.drew ?_ | with_reducible refine Chg.set ?_ (by omega) _)), by repeat' (first | with_reducible exact KR9.out | with_reducible refine Blk.far ?_ (by simp only; omega) _)⟩
        case measure => simp [intOf]; omega
      · have HSX := Lib.hid (HOK9.out (by simp))
        go_wp2
        go_roundw
        case rel => exact ⟨k - 1, x, A9, c9, B9, d9, p1 + 2 + 1 + 1 + 1 + 2, by first | rfl | (rw [HKK.out]), by omega, HSX.out, Blk.put2 (by repeat' (first | with_reducible exact KO9.out | with_reducible refine Blk.far ?_ (by simp only; omega) _)), Fr.mono (B := w8.heap.size) (by repeat' (first | with_reducible exact HF9.out | with_reducible refine Fr.put ?_ PA9.out _ | with_reducible refine Fr.put ?_ QA9.out _)) (Nat.le_trans HG7.out.2 hs8), Fr.mono (B := w8.heap.size) (by repeat' (first | with_reducible exact HF9B.out | with_reducible refine Fr.put ?_ PB9.out _ | with_reducible refine Fr.put ?_ QB9.out _)) (Nat.le_trans HG7.out.2 hs8), Rdr.put2 (Rdr.put2 HR9.out (by omega)) (by omega), by omega, (by repeat' (first | with_reducible exact E9.out | with_reducible refine Chg.alloc ?_ _ | with_reducible refine Chg.drew ?_ | with_reducible refine Chg.set ?_ (by omega) _)), by repeat' (first | with_reducible exact KR9.out | with_reducible refine Blk.far ?_ (by simp only; omega) _)⟩
        case measure => simp [intOf]; omega
end Go.Proofs.YtbdlpbladpppjaaDoor
/- Drawn tags: l5Spaces. -/
namespace Go.Proofs.YtbdlpbladpppjaaDoor
open Go.ChangeShapes Go.WideShapes Go.ChangeAt Go.RowKit
open Rec (sz cs)
set_option linter.unusedVariables false
set_option maxRecDepth 100000

theorem one_int (w : World) (z : Int) : Rd (w.alloc (.cells #[.int .i64 z] 3)) (some ⟨w.heap.size, 0, none⟩) [z] := Bk.rd (Bk.new w 3 [z])
theorem Rdr.kept {w w' : World} {g p lo hi : Nat} (h : Rdr w g p) (k : Chg lo hi w w') (h1 : g < lo) : Rdr w' g p := h.chg k (.inl h1)

end Go.Proofs.YtbdlpbladpppjaaDoor
/- Drawn tables: l3Wrong, for whatever small table. -/
namespace Go.Proofs.YtbdlpbladpppjaaDoor
open Go.ChangeShapes Go.WideShapes Go.ChangeAt Go.RowKit
open Rec (sz cs)
set_option linter.unusedVariables false
set_option maxRecDepth 100000

def SomeTabW (g p nb nf : Nat) (w : World) (e : Ending) (w' : World) : Prop := ∃ (t : TableD) (A : Option Addr) (c : Nat) (B : Option Addr) (d p' : Nat), e = .returned (.agg #[.slice A t.buckets.length c, .slice B t.frames.length d]) ∧ t.buckets.length ≤ nb ∧ t.frames.length ≤ nf ∧ (0 < t.frames.length → 0 < t.buckets.length) ∧ Fr 3 w' w.heap.size A c t.buckets ∧ Fr 47 w' w.heap.size B d t.frames ∧ Rdr w' g p' ∧ p' ≤ p + 10 ∧ w.grownBy w' (some g)

theorem set_key2 {w : World} {gf k : Nat} {ys : List FrameD} {rf : List Value} {x : FrameD} (h : Bk 47 w gf ys rf) (hx : ys[k]? = some x) (q : KeyD) : Bk 47 ((w.setCell ⟨gf, k * 5 + 1, none⟩ (.int .i64 q.space)).setCell ⟨gf, k * 5 + 2, none⟩ (.int .i64 q.page)) gf (ys.set k { x with key := q }) rf := by
  have h1 := Bk.set h (k := k) (j := 1) (off := k * 5 + 1) (u := .int .i64 q.space) (y := { x with key := ⟨q.space, x.key.page⟩ }) hx (by decide) rfl (by simp [sz])
  have h2 := Bk.set h1 (k := k) (j := 2) (x := { x with key := ⟨q.space, x.key.page⟩ }) (off := k * 5 + 2) (u := .int .i64 q.page) (y := { x with key := q }) (by rw [List.getElem?_set_self (getElem?_lt hx)]) (by decide) rfl (by simp [sz])
  rw [List.set_set] at h2
  exact h2

set_option maxHeartbeats 16000000 in
theorem l3Wrong_c (g p : Nat) (t : TableD) (A : Option Addr) (c : Nat) (B : Option Addr) (d : Nat) (w : World) (h : Rdr w g p) (hp : p ≤ 800000) (hx : Rd w A t.buckets) (hy : Rd w B t.frames) (hn : t.buckets.length ≤ 1000) (hm : t.frames.length ≤ 1000) (hz : 0 < t.frames.length → 0 < t.buckets.length) (hc : t.buckets.length ≤ c) (hd : t.frames.length ≤ d) (hc2 : c ≤ maxLen) (hd2 : d ≤ maxLen) :
    Calls Tryd.prog 11 #[.pointer (some ⟨g, 0, none⟩), .agg #[.slice A t.buckets.length c, .slice B t.frames.length d]] w (SomeTabW g p (t.buckets.length + 1) t.frames.length w) := by
  obtain ⟨i0, hi, hz0, hz1, hz2⟩ := info_parts infoMInt
  have lg := h.lt
  have HR0 := Lib.hid h
  have C1 := Lib.hid (fun w' (h : Ex w w') => l3Copy_c t A c B d w' (hx.ex h) (hy.ex h) (by omega) (by omega) hc hd hc2 hd2)
  have HZB := Lib.hid hz
  clear h hx hy hc hd hc2 hd2 hz
  obtain ⟨xs, ys⟩ := t
  dsimp only at C1 HZB hn hm ⊢
  go_enter Tryd.func11, Tryd.ntmps11
  go_wp2_with fail
  refine name_calls ?_; intro v1 hv1
  have X1 : Hid (Chg (0) (0) w v1) := Lib.hid (by rw [hv1]; repeat' (first | with_reducible exact Chg.refl _ _ _ | with_reducible refine Chg.alloc ?_ _ | with_reducible refine Chg.drew ?_ | with_reducible refine Chg.set ?_ (by omega) _))
  have t1 : w.heap.size ≤ v1.heap.size := X1.out.size
  have Ev1 : Hid (Chg g (g + 1) w v1) := Lib.hid ((Chg.refl g (g + 1) w).step X1.out (by omega))
  replace HR0 := Lib.hid (HR0.out.chg X1.out (by omega))
  have KX : Hid (Blk v1 (w.heap.size) 26 [.slice A xs.length c, .slice B ys.length d]) := Lib.hid (by rw [hv1]; repeat' (first | with_reducible exact Blk.new_at _ _ _ (by simp) | with_reducible refine Blk.alloc ?_ _ | with_reducible refine Blk.drew ?_ | with_reducible refine Blk.far ?_ (by simp; omega) _))
  have lX : w.heap.size < v1.heap.size := KX.out.lt
  have KR : Hid (Blk v1 (w.heap.size + 1) 26 [.slice none 0 0, .slice none 0 0]) := Lib.hid (by rw [hv1]; repeat' (first | with_reducible exact Blk.new_at _ _ _ (by simp) | with_reducible refine Blk.alloc ?_ _ | with_reducible refine Blk.drew ?_ | with_reducible refine Blk.far ?_ (by simp; omega) _))
  have lR : w.heap.size + 1 < v1.heap.size := KR.out.lt
  clear hv1
  refine (C1.out _ X1.out.ex_).mono ?_; rintro r w1 ⟨A1, c1, B1, d1, rfl, hfa, hfb, hb1⟩
  have Y1 : Hid (Chg 0 0 v1 w1) := Lib.hid (Chg.of_ex hb1)
  have s1 : v1.heap.size ≤ w1.heap.size := Y1.out.size
  have Ew1 : Hid (Chg g (g + 1) w w1) := Lib.hid (Ev1.out.step Y1.out (by omega))
  clear hb1
  replace KX := Lib.hid (KX.out.chg Y1.out (by omega))
  replace KR := Lib.hid (KR.out.chg Y1.out (by omega))
  replace HR0 := Lib.hid (HR0.out.chg Y1.out (by omega))
  have HFA := Lib.hid hfa; clear hfa
  have WHFA := Lib.hid HFA.out.row
  have HFB := Lib.hid hfb; clear hfb
  have WHFB := Lib.hid HFB.out.row
  obtain ⟨qX0, qX1⟩ := KX.out.c2
  have jX := KX.out.lt
  obtain ⟨qR0, qR1⟩ := KR.out.c2
  have jR := KR.out.lt
  have zR := KR.out.frozen
  by_cases h0 : ys.length = 0
  · have h0' : ((ys.length : Int) == 0) = true := by simp [h0]
    have H0 := Lib.hid h0
    clear h0
    go_wp2
    exact bodyPost_ret (v := .agg #[.slice A1 xs.length c1, .slice B1 ys.length d1]) (by first | (simp [results, Tryd.results11, go_sem, *]; done) | (simp [results, Tryd.results11, go_sem, qR0, qR1, jR]; done)) rfl
      ⟨⟨xs, ys⟩, A1, c1, B1, d1, p, rfl, Nat.le_succ _, Nat.le_refl _, HZB.out, (Fr.mono (B := v1.heap.size) (by repeat' (first | with_reducible exact HFA.out | with_reducible refine Fr.alloc ?_ _ | with_reducible refine Fr.put ?_ (fun b hb => by have := WHFA.out b hb; omega) _)) (by omega)), (Fr.mono (B := v1.heap.size) (by repeat' (first | with_reducible exact HFB.out | with_reducible refine Fr.alloc ?_ _ | with_reducible refine Fr.put ?_ (fun b hb => by have := WHFB.out b hb; omega) _)) (by omega)), Rdr.chg (lo := w.heap.size + 1) (hi := w.heap.size + 2) HR0.out (by repeat' (first | with_reducible exact Chg.refl _ _ w1 | with_reducible refine Chg.alloc ?_ _ | with_reducible refine Chg.drew ?_ | with_reducible refine Chg.set ?_ (by omega) _)) (by omega), by omega, Chg.grown (by repeat' (first | with_reducible exact Ew1.out | with_reducible refine Chg.alloc ?_ _ | with_reducible refine Chg.drew ?_ | with_reducible refine Chg.set ?_ (by omega) _))⟩
  have h0' : ((ys.length : Int) == 0) = false := by simp; intro h; rw [h] at h0; simp at h0
  have hx0 : 0 < xs.length := HZB.out (by omega)
  go_wp2_with fail
  refine name_calls ?_; intro v2 hv2
  have X2 : Hid (Chg (0) (0) w1 v2) := Lib.hid (by rw [hv2]; repeat' (first | with_reducible exact Chg.refl _ _ _ | with_reducible refine Chg.alloc ?_ _ | with_reducible refine Chg.drew ?_ | with_reducible refine Chg.set ?_ (by omega) _))
  have t2 : w1.heap.size ≤ v2.heap.size := X2.out.size
  have Ev2 : Hid (Chg g (g + 1) w v2) := Lib.hid (Ew1.out.step X2.out (by omega))
  clear qX0 qX1 jX
  clear qR0 qR1 jR zR
  replace KX := Lib.hid (KX.out.chg X2.out (by omega))
  replace KR := Lib.hid (KR.out.chg X2.out (by omega))
  replace HFA := Lib.hid (HFA.out.chg X2.out WHFA.out (by omega))
  replace HFB := Lib.hid (HFB.out.chg X2.out WHFB.out (by omega))
  replace HR0 := Lib.hid (HR0.out.chg X2.out (by omega))
  have KO : Hid (Blk v2 (w1.heap.size) 26 [.slice A1 xs.length c1, .slice B1 ys.length d1]) := Lib.hid (by rw [hv2]; repeat' (first | with_reducible exact Blk.new_at _ _ _ (by simp) | with_reducible refine Blk.alloc ?_ _ | with_reducible refine Blk.drew ?_ | with_reducible refine Blk.far ?_ (by simp; omega) _))
  have lO : w1.heap.size < v2.heap.size := KO.out.lt
  clear hv2
  refine (pick_c g p ys.length _ HR0.out (by omega) (by omega)).mono ?_; rintro r w2 ⟨k2, rfl, hhk2, hrd2, hb2⟩
  have Y2 : Hid (Chg (g) (g + 1) v2 w2) := Lib.hid (Chg.of_grown hb2 (fun b hb => by injection hb with hb; omega))
  have s2 : v2.heap.size ≤ w2.heap.size := Y2.out.size
  have Ew2 : Hid (Chg g (g + 1) w w2) := Lib.hid (Ev2.out.step Y2.out (by omega))
  clear hb2
  replace KX := Lib.hid (KX.out.chg Y2.out (by omega))
  replace KR := Lib.hid (KR.out.chg Y2.out (by omega))
  replace KO := Lib.hid (KO.out.chg Y2.out (by omega))
  replace HFA := Lib.hid (HFA.out.chg Y2.out WHFA.out (by omega))
  replace HFB := Lib.hid (HFB.out.chg Y2.out WHFB.out (by omega))
  clear HR0
  have HRD2 := Lib.hid hrd2; clear hrd2
  have HHK2 := Lib.hid hhk2; clear hhk2
  obtain ⟨qX0, qX1⟩ := KX.out.c2
  have jX := KX.out.lt
  obtain ⟨qR0, qR1⟩ := KR.out.c2
  have jR := KR.out.lt
  have zR := KR.out.frozen
  obtain ⟨qO0, qO1⟩ := KO.out.c2
  have jO := KO.out.lt
  obtain ⟨k, rfl⟩ := Int.eq_ofNat_of_zero_le HHK2.out.1
  have hk : k < ys.length := by have := HHK2.out.2.1 (by omega); omega
  have hk0 : ¬ ((k : Int) < 0) := by omega
  have hkl : (k : Int) < (ys.length : Int) := by omega
  have hx1 : (0 : Int) < (xs.length : Int) := by omega
  obtain ⟨gf, rf, hB1, hgf, hbf, hrf⟩ := HFB.out.open_ hk
  obtain ⟨gb, rb, hA1, hgb, hbb, hrb⟩ := HFA.out.open_ hx0
  subst hA1 hB1
  have HBB := Lib.hid hbb
  have HBF := Lib.hid hbf
  have HRB := Lib.hid hrb
  have HRF := Lib.hid hrf
  have hlb := HFA.out.le
  have hlf := HFB.out.le
  have hcb := HFA.out.cap
  have hcf := HFB.out.cap
  obtain ⟨x, hxk⟩ : ∃ x, ys[k]? = some x := ⟨_, List.getElem?_eq_getElem hk⟩
  obtain ⟨y, hy0⟩ : ∃ y, xs[0]? = some y := ⟨_, List.getElem?_eq_getElem hx0⟩
  have HXK := Lib.hid hxk
  have HY0 := Lib.hid hy0
  have hgbl : gb < w1.heap.size := (WHFA.out gb (rowOf_some (by omega))).2
  have hgfl : gf < w1.heap.size := (WHFB.out gf (rowOf_some (by omega))).2
  have hgf2 : w.heap.size + 1 < gf := by omega
  have hgb2 : w.heap.size + 1 < gb := by omega
  have hne := Bk.ne hbb hbf (by decide)
  have hne' : ¬ gf = gb := fun e => hne e.symm
  clear hbb hbf hrb hrf h0 hxk hy0
  clear HFB WHFB
  go_wp2_with fail
  refine name_calls ?_; intro v3 hv3
  have X3 : Hid (Chg (0) (0) w2 v3) := Lib.hid (by rw [hv3]; repeat' (first | with_reducible exact Chg.refl _ _ _ | with_reducible refine Chg.alloc ?_ _ | with_reducible refine Chg.drew ?_ | with_reducible refine Chg.set ?_ (by omega) _))
  have t3 : w2.heap.size ≤ v3.heap.size := X3.out.size
  have Ev3 : Hid (Chg g (g + 1) w v3) := Lib.hid (Ew2.out.step X3.out (by omega))
  clear qX0 qX1 jX
  clear qR0 qR1 jR zR
  clear qO0 qO1 jO
  replace KX := Lib.hid (KX.out.chg X3.out (by omega))
  replace KR := Lib.hid (KR.out.chg X3.out (by omega))
  replace KO := Lib.hid (KO.out.chg X3.out (by omega))
  replace HFA := Lib.hid (HFA.out.chg X3.out WHFA.out (by omega))
  replace HRD2 := Lib.hid (HRD2.out.chg X3.out (by omega))
  replace HBB := Lib.hid (HBB.out.chg X3.out (by omega))
  replace HBF := Lib.hid (HBF.out.chg X3.out (by omega))
  clear hv3
  refine (pick_c g (p + 1) 24 _ HRD2.out (by omega) (by omega)).mono ?_; rintro r w3 ⟨z3, rfl, hhs3, hrd3, hb3⟩
  have Y3 : Hid (Chg (g) (g + 1) v3 w3) := Lib.hid (Chg.of_grown hb3 (fun b hb => by injection hb with hb; omega))
  have s3 : v3.heap.size ≤ w3.heap.size := Y3.out.size
  have Ew3 : Hid (Chg g (g + 1) w w3) := Lib.hid (Ev3.out.step Y3.out (by omega))
  clear hb3
  replace KX := Lib.hid (KX.out.chg Y3.out (by omega))
  replace KR := Lib.hid (KR.out.chg Y3.out (by omega))
  replace KO := Lib.hid (KO.out.chg Y3.out (by omega))
  replace HFA := Lib.hid (HFA.out.chg Y3.out WHFA.out (by omega))
  replace HBB := Lib.hid (HBB.out.chg Y3.out (by omega))
  replace HBF := Lib.hid (HBF.out.chg Y3.out (by omega))
  clear HRD2
  have HRD3 := Lib.hid hrd3; clear hrd3
  have HHS3 := Lib.hid hhs3; clear hhs3
  obtain ⟨qX0, qX1⟩ := KX.out.c2
  have jX := KX.out.lt
  obtain ⟨qR0, qR1⟩ := KR.out.c2
  have jR := KR.out.lt
  have zR := KR.out.frozen
  obtain ⟨qO0, qO1⟩ := KO.out.c2
  have jO := KO.out.lt
  have hs0 := HHS3.out.1
  obtain ⟨d0, d1', d2, d3, d4⟩ := HBF.out.frame HXK.out
  have e0 := HBB.out.int HY0.out
  have zf := HBF.out.frozen
  have zb := HBB.out.frozen
  have lf := Blk.lt HBF.out
  have lb := Blk.lt HBB.out
  have hOr : ¬ w1.heap.size = gf := by omega
  have hOr' : ¬ gf = w1.heap.size := by omega
  have hOb : ¬ w1.heap.size = gb := by omega
  have hOb' : ¬ gb = w1.heap.size := by omega
  have hRr : ¬ w.heap.size + 1 = gf := by omega
  have hRr' : ¬ gf = w.heap.size + 1 := by omega
  have hRb : ¬ w.heap.size + 1 = gb := by omega
  have hRb' : ¬ gb = w.heap.size + 1 := by omega
  have hRO : ¬ w.heap.size + 1 = w1.heap.size := by omega
  have hRO' : ¬ w1.heap.size = w.heap.size + 1 := by omega
  have hneF : some gf ≠ some g := fun e => by injection e with e; omega
  have hneB : some gb ≠ some g := fun e => by injection e with e; omega
  have hneO : some w1.heap.size ≠ some g := fun e => by injection e with e; omega
  have hneRt : some (w.heap.size + 1) ≠ some g := fun e => by injection e with e; omega
  have hneL : w3.heap.size ≠ g := by omega
  have zO := KO.out.frozen
  by_cases s0 : z3 = 0
  · subst s0
    have CN : Hid (∀ (b : Nat) (w1 : World), Rdr w1 g (p + 1 + 1) → Rd w1 (some ⟨b, 0, none⟩) ([0, (k : Int), 16, -1] : List Int) → b ≠ g → Calls Tryd.prog 13 #[.pointer (some ⟨g, 0, none⟩), .slice (some ⟨b, 0, none⟩) 4 4] w1 (Chosen g (p + 1 + 1) [0, (k : Int), 16, -1] w1)) := Lib.hid (fun b w1 h hz hne => num_c g (p + 1 + 1) b 0 4 [0, (k : Int), 16, -1] w1 h hz (by simp) (by simp) (by omega) hne)
    clear d0 d1' d2 d3 d4 e0 zf lf zb lb zO
    go_wp2_with fail
    go_region_held3 (fun w' => (w'.cell? ⟨w1.heap.size, 0, none⟩ = some (.slice (some ⟨gb, 0, none⟩) xs.length c1) ∧ w'.cell? ⟨w1.heap.size, 1, none⟩ = some (.slice (some ⟨gf, 0, none⟩) ys.length d1))) (first | exact KO.out.c2 | exact (Blk.drew KO.out).c2 | exact ((Blk.drew KO.out).alloc _).c2 | exact hO4.c2 | exact (Blk.far hO4 hOr _).c2 | exact (Blk.far (Blk.far hO4 hOr _) hOr _).c2 | go_keep) (first | (go_at_call 13; (with_reducible refine (CN.out _ _ ?_ ?_ ?_).mono ?_); (exact (Rdr.drew HRD3.out).alloc _); (exact Rd.lits _ _ _); (exact hneL); rintro r w4 ⟨h4, rfl, hv4, hrd4, hg4⟩; have hO4 := Blk.grown ((Blk.drew KO.out).alloc _) hg4 hneO; have hR4 := Blk.grown ((Blk.drew KR.out).alloc _) hg4 hneRt; have hF4 := Bk.grown ((Bk.drew HBF.out).alloc _) hg4 hneF; have hB4 := Bk.grown ((Bk.drew HBB.out).alloc _) hg4 hneB; obtain ⟨d0, d1', d2, d3, d4⟩ := hF4.frame HXK.out; have e0 := hB4.int HY0.out; have zf := hF4.frozen; have lf := Blk.lt hF4; have zb := hB4.frozen; have lb := Blk.lt hB4; obtain ⟨r0, r1⟩ := hR4.c2; have rfz := hR4.frozen; have rl := hR4.lt; obtain ⟨x0, x1⟩ := hO4.c2; have xl := hO4.lt))
    rename_i hHeld
    clear hHeld
    have Y4 : Chg g (g + 1) w3 w4 := ((Chg.refl g (g + 1) w3).drew.alloc _).trans (Chg.of_grown hg4 (fun b hb => by injection hb with hb; omega))
    have Ew4 : Hid (Chg g (g + 1) w w4) := Lib.hid (Ew3.out.trans Y4)
    have HRD4 := Lib.hid hrd4
    have HF4 := Lib.hid hF4
    have HB4 := Lib.hid hB4
    have s4 := Y4.size
    clear hg4 hrd4 hF4 hB4 hO4 hR4
    go_wp2
    exact bodyPost_ret (v := .agg #[.slice (some ⟨gb, 0, none⟩) xs.length c1, .slice (some ⟨gf, 0, none⟩) ys.length d1]) (by first | (simp [results, Tryd.results11, go_sem, *]; done) | (simp [results, Tryd.results11, go_sem, qR0, qR1, r0, r1, rl, x0, x1, xl, hRO, hRO']; done)) rfl
          ⟨⟨xs, (ys.set k { x with next := h4 })⟩, some ⟨gb, 0, none⟩, c1, some ⟨gf, 0, none⟩, d1, p + 1 + 1 + 1, by simp, by simp, by simp, (by simpa using HZB.out), Fr.close (xs := xs) (rest := rb) (by repeat' (first | with_reducible refine Bk.alloc ?_ _ | with_reducible refine Bk.drew ?_ | with_reducible refine Bk.far ?_ (by first | (simp; done) | (simp; omega)) _ | exact HB4.out)) (by omega) (by simpa using HRB.out) (by simpa using hlb) hcb, Fr.close (xs := (ys.set k { x with next := h4 })) (rest := rf) (by repeat' (first | with_reducible refine Bk.alloc ?_ _ | with_reducible refine Bk.drew ?_ | with_reducible refine Bk.far ?_ (by first | (simp; done) | (simp; omega)) _ | exact Bk.set (k := k) (j := 4) (off := k * 5 + 4) (u := .int .i64 h4) (y := { x with next := h4 }) HF4.out HXK.out (by decide) rfl (by simp [sz]))) (by omega) (by simpa using HRF.out) (by simpa using hlf) hcf, Rdr.chg (lo := w.heap.size + 1) (hi := w1.heap.size + 1) HRD4.out (by repeat' (first | with_reducible exact Chg.refl _ _ w4 | with_reducible refine Chg.alloc ?_ _ | with_reducible refine Chg.drew ?_ | with_reducible refine Chg.set ?_ (by omega) _)) (by omega), by omega, Chg.grown (by repeat' (first | with_reducible exact Ew4.out | with_reducible refine Chg.alloc ?_ _ | with_reducible refine Chg.drew ?_ | with_reducible refine Chg.set ?_ (by omega) _))⟩
  have b0 : (z3 == 0) = false := by simp [s0]
  by_cases s1 : z3 = 1
  · subst s1
    cases hxv : x.used
    all_goals
      rw [hxv] at d0
      go_wp2_with fail
      go_region
      go_wp2
    · exact bodyPost_ret (v := .agg #[.slice (some ⟨gb, 0, none⟩) xs.length c1, .slice (some ⟨gf, 0, none⟩) ys.length d1]) (by first | (simp [results, Tryd.results11, go_sem, *]; done) | (simp [results, Tryd.results11, go_sem, qR0, qR1, qO0, qO1, jR, jO, hRO, hRO']; done)) rfl
          ⟨⟨xs, (ys.set k { x with used := true })⟩, some ⟨gb, 0, none⟩, c1, some ⟨gf, 0, none⟩, d1, p + 1 + 1, by simp, by simp, by simp, (by simpa using HZB.out), Fr.close (xs := xs) (rest := rb) (by repeat' (first | with_reducible refine Bk.alloc ?_ _ | with_reducible refine Bk.drew ?_ | with_reducible refine Bk.far ?_ (by first | (simp; done) | (simp; omega)) _ | exact HBB.out)) (by omega) (by simpa using HRB.out) (by simpa using hlb) hcb, Fr.close (xs := (ys.set k { x with used := true })) (rest := rf) (by repeat' (first | with_reducible refine Bk.alloc ?_ _ | with_reducible refine Bk.drew ?_ | with_reducible refine Bk.far ?_ (by first | (simp; done) | (simp; omega)) _ | exact Bk.set (k := k) (j := 0) (off := k * 5) (u := .bool true) (y := { x with used := true }) HBF.out HXK.out (by decide) rfl (by simp [sz]))) (by omega) (by simpa using HRF.out) (by simpa using hlf) hcf, Rdr.chg (lo := w.heap.size + 1) (hi := w1.heap.size + 1) HRD3.out (by repeat' (first | with_reducible exact Chg.refl _ _ w3 | with_reducible refine Chg.alloc ?_ _ | with_reducible refine Chg.drew ?_ | with_reducible refine Chg.set ?_ (by omega) _)) (by omega), by omega, Chg.grown (by repeat' (first | with_reducible exact Ew3.out | with_reducible refine Chg.alloc ?_ _ | with_reducible refine Chg.drew ?_ | with_reducible refine Chg.set ?_ (by omega) _))⟩
    · exact bodyPost_ret (v := .agg #[.slice (some ⟨gb, 0, none⟩) xs.length c1, .slice (some ⟨gf, 0, none⟩) ys.length d1]) (by first | (simp [results, Tryd.results11, go_sem, *]; done) | (simp [results, Tryd.results11, go_sem, qR0, qR1, qO0, qO1, jR, jO, hRO, hRO']; done)) rfl
          ⟨⟨xs, (ys.set k { x with used := false })⟩, some ⟨gb, 0, none⟩, c1, some ⟨gf, 0, none⟩, d1, p + 1 + 1, by simp, by simp, by simp, (by simpa using HZB.out), Fr.close (xs := xs) (rest := rb) (by repeat' (first | with_reducible refine Bk.alloc ?_ _ | with_reducible refine Bk.drew ?_ | with_reducible refine Bk.far ?_ (by first | (simp; done) | (simp; omega)) _ | exact HBB.out)) (by omega) (by simpa using HRB.out) (by simpa using hlb) hcb, Fr.close (xs := (ys.set k { x with used := false })) (rest := rf) (by repeat' (first | with_reducible refine Bk.alloc ?_ _ | with_reducible refine Bk.drew ?_ | with_reducible refine Bk.far ?_ (by first | (simp; done) | (simp; omega)) _ | exact Bk.set (k := k) (j := 0) (off := k * 5) (u := .bool false) (y := { x with used := false }) HBF.out HXK.out (by decide) rfl (by simp [sz]))) (by omega) (by simpa using HRF.out) (by simpa using hlf) hcf, Rdr.chg (lo := w.heap.size + 1) (hi := w1.heap.size + 1) HRD3.out (by repeat' (first | with_reducible exact Chg.refl _ _ w3 | with_reducible refine Chg.alloc ?_ _ | with_reducible refine Chg.drew ?_ | with_reducible refine Chg.set ?_ (by omega) _)) (by omega), by omega, Chg.grown (by repeat' (first | with_reducible exact Ew3.out | with_reducible refine Chg.alloc ?_ _ | with_reducible refine Chg.drew ?_ | with_reducible refine Chg.set ?_ (by omega) _))⟩
  have b1 : (z3 == 1) = false := by simp [s1]
  by_cases s2 : z3 = 2
  · subst s2
    have CN : Hid (∀ (b : Nat) (w1 : World), Rdr w1 g (p + 1 + 1) → Rd w1 (some ⟨b, 0, none⟩) ([0, -1, 16, -2] : List Int) → b ≠ g → Calls Tryd.prog 13 #[.pointer (some ⟨g, 0, none⟩), .slice (some ⟨b, 0, none⟩) 4 4] w1 (Chosen g (p + 1 + 1) [0, -1, 16, -2] w1)) := Lib.hid (fun b w1 h hz hne => num_c g (p + 1 + 1) b 0 4 [0, -1, 16, -2] w1 h hz (by simp) (by simp) (by omega) hne)
    clear d0 d1' d2 d3 d4 e0 zf lf zb lb zO
    go_wp2_with fail
    go_region_held3 (fun w' => (w'.cell? ⟨w1.heap.size, 0, none⟩ = some (.slice (some ⟨gb, 0, none⟩) xs.length c1) ∧ w'.cell? ⟨w1.heap.size, 1, none⟩ = some (.slice (some ⟨gf, 0, none⟩) ys.length d1))) (first | exact KO.out.c2 | exact (Blk.drew KO.out).c2 | exact ((Blk.drew KO.out).alloc _).c2 | exact hO4.c2 | exact (Blk.far hO4 hOb _).c2 | exact (Blk.far (Blk.far hO4 hOb _) hOb _).c2 | go_keep) (first | (go_at_call 13; (with_reducible refine (CN.out _ _ ?_ ?_ ?_).mono ?_); (exact (Rdr.drew HRD3.out).alloc _); (exact Rd.lits _ _ _); (exact hneL); rintro r w4 ⟨h4, rfl, hv4, hrd4, hg4⟩; have hO4 := Blk.grown ((Blk.drew KO.out).alloc _) hg4 hneO; have hR4 := Blk.grown ((Blk.drew KR.out).alloc _) hg4 hneRt; have hF4 := Bk.grown ((Bk.drew HBF.out).alloc _) hg4 hneF; have hB4 := Bk.grown ((Bk.drew HBB.out).alloc _) hg4 hneB; obtain ⟨d0, d1', d2, d3, d4⟩ := hF4.frame HXK.out; have e0 := hB4.int HY0.out; have zf := hF4.frozen; have lf := Blk.lt hF4; have zb := hB4.frozen; have lb := Blk.lt hB4; obtain ⟨r0, r1⟩ := hR4.c2; have rfz := hR4.frozen; have rl := hR4.lt; obtain ⟨x0, x1⟩ := hO4.c2; have xl := hO4.lt))
    rename_i hHeld
    clear hHeld
    have Y4 : Chg g (g + 1) w3 w4 := ((Chg.refl g (g + 1) w3).drew.alloc _).trans (Chg.of_grown hg4 (fun b hb => by injection hb with hb; omega))
    have Ew4 : Hid (Chg g (g + 1) w w4) := Lib.hid (Ew3.out.trans Y4)
    have HRD4 := Lib.hid hrd4
    have HF4 := Lib.hid hF4
    have HB4 := Lib.hid hB4
    have s4 := Y4.size
    clear hg4 hrd4 hF4 hB4 hO4 hR4
    go_wp2
    exact bodyPost_ret (v := .agg #[.slice (some ⟨gb, 0, none⟩) xs.length c1, .slice (some ⟨gf, 0, none⟩) ys.length d1]) (by first | (simp [results, Tryd.results11, go_sem, *]; done) | (simp [results, Tryd.results11, go_sem, qR0, qR1, r0, r1, rl, x0, x1, xl, hRO, hRO']; done)) rfl
          ⟨⟨(xs.set 0 h4), ys⟩, some ⟨gb, 0, none⟩, c1, some ⟨gf, 0, none⟩, d1, p + 1 + 1 + 1, by simp, by simp, by simp, (by simpa using HZB.out), Fr.close (xs := (xs.set 0 h4)) (rest := rb) (by repeat' (first | with_reducible refine Bk.alloc ?_ _ | with_reducible refine Bk.drew ?_ | with_reducible refine Bk.far ?_ (by first | (simp; done) | (simp; omega)) _ | exact Bk.set (k := 0) (j := 0) (off := 0) (u := .int .i64 h4) (y := h4) HB4.out HY0.out (by decide) rfl (by simp [sz]))) (by omega) (by simpa using HRB.out) (by simpa using hlb) hcb, Fr.close (xs := ys) (rest := rf) (by repeat' (first | with_reducible refine Bk.alloc ?_ _ | with_reducible refine Bk.drew ?_ | with_reducible refine Bk.far ?_ (by first | (simp; done) | (simp; omega)) _ | exact HF4.out)) (by omega) (by simpa using HRF.out) (by simpa using hlf) hcf, Rdr.chg (lo := w.heap.size + 1) (hi := w1.heap.size + 1) HRD4.out (by repeat' (first | with_reducible exact Chg.refl _ _ w4 | with_reducible refine Chg.alloc ?_ _ | with_reducible refine Chg.drew ?_ | with_reducible refine Chg.set ?_ (by omega) _)) (by omega), by omega, Chg.grown (by repeat' (first | with_reducible exact Ew4.out | with_reducible refine Chg.alloc ?_ _ | with_reducible refine Chg.drew ?_ | with_reducible refine Chg.set ?_ (by omega) _))⟩
  have b2 : (z3 == 2) = false := by simp [s2]
  by_cases s3 : z3 = 3
  · subst s3
    have CK : Hid (∀ w1, Rdr w1 g (p + 1 + 1) → Calls Tryd.prog 30 #[.pointer (some ⟨g, 0, none⟩)] w1 (SomeKey g (p + 1 + 1) w1)) := Lib.hid (fun w1 h => l2Draw_c g (p + 1 + 1) w1 h (by omega))
    clear d0 d1' d2 d3 d4 e0 zf lf zb lb zO
    go_wp2_with fail
    go_region_held3 (fun w' => (w'.cell? ⟨w1.heap.size, 0, none⟩ = some (.slice (some ⟨gb, 0, none⟩) xs.length c1) ∧ w'.cell? ⟨w1.heap.size, 1, none⟩ = some (.slice (some ⟨gf, 0, none⟩) ys.length d1))) (first | exact KO.out.c2 | exact (Blk.drew KO.out).c2 | exact ((Blk.drew KO.out).alloc _).c2 | exact hO4.c2 | exact (Blk.far hO4 hOr _).c2 | exact (Blk.far (Blk.far hO4 hOr _) hOr _).c2 | go_keep) (first | (go_at_call 30; (with_reducible refine (CK.out _ ?_).mono ?_); (exact Rdr.drew HRD3.out); rintro r w4 ⟨h4, rfl, hv4, hrd4, hg4⟩; have hO4 := Blk.grown (Blk.drew KO.out) hg4 hneO; have hR4 := Blk.grown (Blk.drew KR.out) hg4 hneRt; have hF4 := Bk.grown (Bk.drew HBF.out) hg4 hneF; have hB4 := Bk.grown (Bk.drew HBB.out) hg4 hneB; obtain ⟨d0, d1', d2, d3, d4⟩ := hF4.frame HXK.out; have e0 := hB4.int HY0.out; have zf := hF4.frozen; have lf := Blk.lt hF4; have zb := hB4.frozen; have lb := Blk.lt hB4; obtain ⟨r0, r1⟩ := hR4.c2; have rfz := hR4.frozen; have rl := hR4.lt; obtain ⟨x0, x1⟩ := hO4.c2; have xl := hO4.lt))
    rename_i hHeld
    clear hHeld
    have Y4 : Chg g (g + 1) w3 w4 := ((Chg.refl g (g + 1) w3).drew).trans (Chg.of_grown hg4 (fun b hb => by injection hb with hb; omega))
    have Ew4 : Hid (Chg g (g + 1) w w4) := Lib.hid (Ew3.out.trans Y4)
    have HRD4 := Lib.hid hrd4
    have HF4 := Lib.hid hF4
    have HB4 := Lib.hid hB4
    have s4 := Y4.size
    clear hg4 hrd4 hF4 hB4 hO4 hR4
    go_wp2
    exact bodyPost_ret (v := .agg #[.slice (some ⟨gb, 0, none⟩) xs.length c1, .slice (some ⟨gf, 0, none⟩) ys.length d1]) (by first | (simp [results, Tryd.results11, go_sem, *]; done) | (simp [results, Tryd.results11, go_sem, qR0, qR1, r0, r1, rl, x0, x1, xl, hRO, hRO']; done)) rfl
          ⟨⟨xs, (ys.set k { x with key := h4 })⟩, some ⟨gb, 0, none⟩, c1, some ⟨gf, 0, none⟩, d1, p + 1 + 1 + 2, by simp, by simp, by simp, (by simpa using HZB.out), Fr.close (xs := xs) (rest := rb) (by repeat' (first | with_reducible refine Bk.alloc ?_ _ | with_reducible refine Bk.drew ?_ | with_reducible refine Bk.far ?_ (by first | (simp; done) | (simp; omega)) _ | exact HB4.out)) (by omega) (by simpa using HRB.out) (by simpa using hlb) hcb, Fr.close (xs := (ys.set k { x with key := h4 })) (rest := rf) (by repeat' (first | with_reducible refine Bk.alloc ?_ _ | with_reducible refine Bk.drew ?_ | with_reducible refine Bk.far ?_ (by first | (simp; done) | (simp; omega)) _ | exact set_key2 HF4.out HXK.out h4)) (by omega) (by simpa using HRF.out) (by simpa using hlf) hcf, Rdr.chg (lo := w.heap.size + 1) (hi := w1.heap.size + 1) HRD4.out (by repeat' (first | with_reducible exact Chg.refl _ _ w4 | with_reducible refine Chg.alloc ?_ _ | with_reducible refine Chg.drew ?_ | with_reducible refine Chg.set ?_ (by omega) _)) (by omega), by omega, Chg.grown (by repeat' (first | with_reducible exact Ew4.out | with_reducible refine Chg.alloc ?_ _ | with_reducible refine Chg.drew ?_ | with_reducible refine Chg.set ?_ (by omega) _))⟩
  have b3 : (z3 == 3) = false := by simp [s3]
  by_cases s4 : z3 = 4
  · subst s4
    have h63 : xs.length + 1 ≤ maxLen := by simp [maxLen]; omega
    have hby : (xs.length + 1) * 8 ≤ 140737488355328 := by omega
    clear d0 d1' d2 d3 d4 e0 zf lf zb lb
    go_wp2_with (at_builtin; refine wpList_append_fr (α := Int) rfl _ _ 23 rfl 3 i0 _ 8 v1.heap.size Tryd.underlying23 hi hz0 hz1 hz2 rfl _ _ _ xs rfl rfl (HFA.out.alloc _) _ 1 1 [-1] rfl rfl (one_int _ _) h63 hby (by simp <;> omega) ?_)
    intro A6 c6 w6 ha
    have HA := Lib.hid ha
    clear ha
    have Y6 : Hid (Chg v1.heap.size w1.heap.size w3 w6) := Lib.hid (((Chg.refl _ _ w3).alloc _).trans (Chg.of_grown HA.out.grown WHFA.out))
    have WNE6 : Hid (∀ b, rowOf A6 c6 = some b → b ≠ w1.heap.size ∧ b ≠ w.heap.size + 1) := Lib.hid (fun b hb => by
      rcases HA.out.row with e | e
      · rw [hb] at e
        have := WHFA.out b e.symm
        omega
      · rw [hb] at e
        injection e with e
        simp at e
        omega)
    have HF6 : Hid (Bk 47 w6 gf ys rf) := Lib.hid (Blk.grown (Bk.alloc HBF.out _) HA.out.grown (fun e => by
      unfold rowOf at e
      split at e
      · cases e
      · injection e with e; exact hne' e))
    clear HFA WHFA
    clear HBB
    clear HBF
    have s6 : w3.heap.size ≤ w6.heap.size := Y6.out.size
    have Ew6 : Hid (Chg g (g + 1) w w6) := Lib.hid (Ew3.out.step Y6.out (by omega))
    clear qX0 qX1 jX
    clear qR0 qR1 jR zR
    clear qO0 qO1 jO
    replace KX := Lib.hid (KX.out.chg Y6.out (by omega))
    replace KR := Lib.hid (KR.out.chg Y6.out (by omega))
    replace KO := Lib.hid (KO.out.chg Y6.out (by omega))
    replace HRD3 := Lib.hid (HRD3.out.chg Y6.out (by omega))
    obtain ⟨qX0, qX1⟩ := KX.out.c2
    have jX := KX.out.lt
    obtain ⟨qR0, qR1⟩ := KR.out.c2
    have jR := KR.out.lt
    have zR := KR.out.frozen
    obtain ⟨qO0, qO1⟩ := KO.out.c2
    have jO := KO.out.lt
    have HB6 := Lib.hid HA.out.fr
    have hle6 := HB6.out.le
    clear HA
    rw [List.length_append] at hle6
    have zO := KO.out.frozen
    have zR := KR.out.frozen
    go_wp2
    exact bodyPost_ret (v := .agg #[.slice A6 (xs.length + 1) c6, .slice (some ⟨gf, 0, none⟩) ys.length d1]) (by first | (simp [results, Tryd.results11, go_sem, *]; done) | (simp [results, Tryd.results11, go_sem, qR0, qR1]; done)) rfl
      ⟨⟨xs ++ [-1], ys⟩, A6, c6, some ⟨gf, 0, none⟩, d1, p + 1 + 1, by simp, by simp, Nat.le_refl _, (by simp), Fr.mono (B := v1.heap.size) (by repeat' (first | with_reducible exact HB6.out | with_reducible refine Fr.drew ?_ | with_reducible refine Fr.alloc ?_ _ | with_reducible refine Fr.put ?_ (fun b hb => by have := WNE6.out b hb; omega) _)) (by omega), Fr.close (xs := ys) (rest := rf) (by repeat' (first | with_reducible refine Bk.alloc ?_ _ | with_reducible refine Bk.drew ?_ | with_reducible refine Bk.far ?_ (by first | (simp; done) | (simp; omega)) _ | exact HF6.out)) (by omega) HRF.out hlf hcf, Rdr.chg (lo := w.heap.size + 1) (hi := w1.heap.size + 1) HRD3.out (by repeat' (first | with_reducible exact Chg.refl _ _ w6 | with_reducible refine Chg.alloc ?_ _ | with_reducible refine Chg.drew ?_ | with_reducible refine Chg.set ?_ (by omega) _)) (by omega), by omega, Chg.grown (by repeat' (first | with_reducible exact Ew6.out | with_reducible refine Chg.alloc ?_ _ | with_reducible refine Chg.drew ?_ | with_reducible refine Chg.set ?_ (by omega) _))⟩
  have b4 : (z3 == 4) = false := by simp [s4]
  by_cases s5 : z3 = 5
  · subst s5
    go_wp2
    exact bodyPost_ret (v := .agg #[.slice (some ⟨gb, 0, none⟩) xs.length c1, .slice (some ⟨w3.heap.size, 0, none⟩) 0 0]) (by first | (simp [results, Tryd.results11, go_sem, *]; done) | (simp [results, Tryd.results11, go_sem, qR0, qR1, qO0, qO1, jR, jO, hRO, hRO']; done)) rfl
      ⟨⟨xs, []⟩, some ⟨gb, 0, none⟩, c1, some ⟨w3.heap.size, 0, none⟩, 0, p + 1 + 1, rfl, Nat.le_succ _, Nat.zero_le _, (by simp), Fr.close (xs := xs) (rest := rb) (by repeat' (first | with_reducible refine Bk.alloc ?_ _ | with_reducible refine Bk.drew ?_ | with_reducible refine Bk.far ?_ (by first | (simp; done) | (simp; omega)) _ | exact HBB.out)) (by omega) HRB.out hlb hcb, ⟨Nat.le_refl _, Nat.zero_le _, .inl rfl⟩, Rdr.chg (lo := w.heap.size + 1) (hi := w1.heap.size + 1) HRD3.out (by repeat' (first | with_reducible exact Chg.refl _ _ w3 | with_reducible refine Chg.alloc ?_ _ | with_reducible refine Chg.drew ?_ | with_reducible refine Chg.set ?_ (by omega) _)) (by omega), by omega, Chg.grown (by repeat' (first | with_reducible exact Ew3.out | with_reducible refine Chg.alloc ?_ _ | with_reducible refine Chg.drew ?_ | with_reducible refine Chg.set ?_ (by omega) _))⟩
  have b5 : (z3 == 5) = false := by simp [s5]
  go_wp2
  exact bodyPost_ret (v := .agg #[.slice (some ⟨gb, 0, none⟩) xs.length c1, .slice (some ⟨gf, 0, none⟩) ys.length d1]) (by first | (simp [results, Tryd.results11, go_sem, *]; done) | (simp [results, Tryd.results11, go_sem, qR0, qR1, qO0, qO1, jR, jO, hRO, hRO']; done)) rfl
          ⟨⟨xs, ys⟩, some ⟨gb, 0, none⟩, c1, some ⟨gf, 0, none⟩, d1, p + 1 + 1, by simp, by simp, by simp, (by simpa using HZB.out), Fr.close (xs := xs) (rest := rb) (by repeat' (first | with_reducible refine Bk.alloc ?_ _ | with_reducible refine Bk.drew ?_ | with_reducible refine Bk.far ?_ (by first | (simp; done) | (simp; omega)) _ | exact HBB.out)) (by omega) (by simpa using HRB.out) (by simpa using hlb) hcb, Fr.close (xs := ys) (rest := rf) (by repeat' (first | with_reducible refine Bk.alloc ?_ _ | with_reducible refine Bk.drew ?_ | with_reducible refine Bk.far ?_ (by first | (simp; done) | (simp; omega)) _ | exact HBF.out)) (by omega) (by simpa using HRF.out) (by simpa using hlf) hcf, Rdr.chg (lo := w.heap.size + 1) (hi := w1.heap.size + 1) HRD3.out (by repeat' (first | with_reducible exact Chg.refl _ _ w3 | with_reducible refine Chg.alloc ?_ _ | with_reducible refine Chg.drew ?_ | with_reducible refine Chg.set ?_ (by omega) _)) (by omega), by omega, Chg.grown (by repeat' (first | with_reducible exact Ew3.out | with_reducible refine Chg.alloc ?_ _ | with_reducible refine Chg.drew ?_ | with_reducible refine Chg.set ?_ (by omega) _))⟩
end Go.Proofs.YtbdlpbladpppjaaDoor
/- The argument of the Rehash law: a table and a number of buckets. -/
namespace Go.Proofs.YtbdlpbladpppjaaDoor
open Go.ChangeShapes Go.WideShapes Go.ChangeAt Go.RowKit
open Rec (sz cs)
set_option linter.unusedVariables false
set_option maxRecDepth 100000

def DrawnReh (w : World) (e : Ending) (w' : World) : Prop := ∃ (t : TableD) (A : Option Addr) (c : Nat) (B : Option Addr) (d : Nat) (n : Int), e = .returned (.tuple #[.agg #[.slice A t.buckets.length c, .slice B t.frames.length d], .int .i64 n]) ∧ (0 ≤ n ∧ n ≤ 16) ∧ t.buckets.length ≤ 17 ∧ t.frames.length ≤ 8 ∧ Fr 3 w' w.heap.size A c t.buckets ∧ Fr 47 w' w.heap.size B d t.frames ∧ Ex w w'

set_option maxHeartbeats 4000000 in
theorem drawRehash_c (A : Option Addr) (c : Nat) (bs : List ByteD) (w : World) (hx : Rd w A bs) (hb : Bytes bs) (hn : bs.length ≤ 1048576) (hc : bs.length ≤ c) (hcm : c ≤ maxLen) :
    Calls Tryd.prog 4 #[.slice A bs.length c] w (DrawnReh w) := by
  have C1 := Lib.hid (fun w' (h : Ex w w') => l12Open_c A c bs w' (hx.ex h) hb hn hc hcm)
  generalize bs.length = n at C1 hn hc
  clear hx hb hn hc hcm
  go_enter Tryd.func4, Tryd.ntmps4
  go_wp2_with fail
  refine name_calls ?_; intro v1 hv1
  have X1 : Hid (Chg (0) (0) w v1) := Lib.hid (by rw [hv1]; repeat' (first | with_reducible exact Chg.refl _ _ _ | with_reducible refine Chg.alloc ?_ _ | with_reducible refine Chg.drew ?_ | with_reducible refine Chg.set ?_ (by omega) _))
  have t1 : w.heap.size ≤ v1.heap.size := X1.out.size
  have Ev1 : Hid (Ex w v1) := Lib.hid ((Ex.refl w).chg X1.out (by omega))
  have KR : Hid (Blk v1 (w.heap.size) 26 [.slice none 0 0, .slice none 0 0]) := Lib.hid (by rw [hv1]; repeat' (first | with_reducible exact Blk.new_at _ _ _ (by simp) | with_reducible refine Blk.alloc ?_ _ | with_reducible refine Blk.drew ?_ | with_reducible refine Blk.far ?_ (by simp; omega) _))
  have lR : w.heap.size < v1.heap.size := KR.out.lt
  clear hv1
  refine (C1.out _ Ev1.out).mono ?_; rintro r w1 ⟨g, rfl, hrd1, hg1, hb1⟩
  have Y1 : Hid (Chg 0 0 v1 w1) := Lib.hid (Chg.of_ex hb1)
  have s1 : v1.heap.size ≤ w1.heap.size := Y1.out.size
  have Ew1 : Hid (Ex w w1) := Lib.hid (Ev1.out.chg Y1.out (by omega))
  clear hb1
  replace KR := Lib.hid (KR.out.chg Y1.out (by omega))
  have HRD1 := Lib.hid hrd1; clear hrd1
  obtain ⟨qR0, qR1⟩ := KR.out.c2
  have jR := KR.out.lt
  have zR := KR.out.frozen
  have lg := HRD1.out.lt
  go_wp2_with fail
  refine name_calls ?_; intro v2 hv2
  have X2 : Hid (Chg (0) (0) w1 v2) := Lib.hid (by rw [hv2]; repeat' (first | with_reducible exact Chg.refl _ _ _ | with_reducible refine Chg.alloc ?_ _ | with_reducible refine Chg.drew ?_ | with_reducible refine Chg.set ?_ (by omega) _))
  have t2 : w1.heap.size ≤ v2.heap.size := X2.out.size
  have Ev2 : Hid (Ex w v2) := Lib.hid (Ew1.out.chg X2.out (by omega))
  clear qR0 qR1 jR zR
  replace KR := Lib.hid (KR.out.chg X2.out (by omega))
  replace HRD1 := Lib.hid (HRD1.out.chg X2.out (by omega))
  clear hv2
  refine (l3Draw_c g 0 _ HRD1.out (by omega)).mono ?_; rintro r w2 ⟨t2, A2, c2, B2, d2, p2, rfl, hst, hfa, hfb, hrd2, hp2, hb2⟩
  have Y2 : Hid (Chg (g) (g + 1) v2 w2) := Lib.hid (Chg.of_grown hb2 (fun b hb => by injection hb with hb; omega))
  have s2 : v2.heap.size ≤ w2.heap.size := Y2.out.size
  have Ew2 : Hid (Ex w w2) := Lib.hid (Ev2.out.chg Y2.out (by omega))
  clear hb2
  replace KR := Lib.hid (KR.out.chg Y2.out (by omega))
  clear HRD1
  have HFA := Lib.hid hfa; clear hfa
  have WHFA := Lib.hid HFA.out.row
  have HFB := Lib.hid hfb; clear hfb
  have WHFB := Lib.hid HFB.out.row
  have HRD2 := Lib.hid hrd2; clear hrd2
  obtain ⟨qR0, qR1⟩ := KR.out.c2
  have jR := KR.out.lt
  have zR := KR.out.frozen
  have hth := hst.1.1
  have hfl := hst.2
  unfold TableHead at hth
  clear hst
  go_wp2_with fail
  refine name_calls ?_; intro v3 hv3
  have X3 : Hid (Chg (0) (0) w2 v3) := Lib.hid (by rw [hv3]; repeat' (first | with_reducible exact Chg.refl _ _ _ | with_reducible refine Chg.alloc ?_ _ | with_reducible refine Chg.drew ?_ | with_reducible refine Chg.set ?_ (by omega) _))
  have t3 : w2.heap.size ≤ v3.heap.size := X3.out.size
  have Ev3 : Hid (Ex w v3) := Lib.hid (Ew2.out.chg X3.out (by omega))
  clear qR0 qR1 jR zR
  replace KR := Lib.hid (KR.out.chg X3.out (by omega))
  replace HFA := Lib.hid (HFA.out.chg X3.out WHFA.out (by omega))
  replace HFB := Lib.hid (HFB.out.chg X3.out WHFB.out (by omega))
  replace HRD2 := Lib.hid (HRD2.out.chg X3.out (by omega))
  clear hv3
  refine (l3Wrong_c g p2 t2 A2 c2 B2 d2 _ HRD2.out (by omega) HFA.out.rd HFB.out.rd (by omega) (by omega) (by omega) HFA.out.le HFB.out.le HFA.out.cap HFB.out.cap).mono ?_; rintro r w3 ⟨t3, A3, c3, B3, d3, p3, rfl, hnb, hnf, hnz, hfc, hfd, hrd3, hp3, hb3⟩
  have Y3 : Hid (Chg (g) (g + 1) v3 w3) := Lib.hid (Chg.of_grown hb3 (fun b hb => by injection hb with hb; omega))
  have s3 : v3.heap.size ≤ w3.heap.size := Y3.out.size
  have Ew3 : Hid (Ex w w3) := Lib.hid (Ev3.out.chg Y3.out (by omega))
  clear hb3
  replace KR := Lib.hid (KR.out.chg Y3.out (by omega))
  replace HFA := Lib.hid (HFA.out.chg Y3.out WHFA.out (by omega))
  replace HFB := Lib.hid (HFB.out.chg Y3.out WHFB.out (by omega))
  clear HRD2
  have HFC := Lib.hid hfc; clear hfc
  have WHFC := Lib.hid HFC.out.row
  have HFD := Lib.hid hfd; clear hfd
  have WHFD := Lib.hid HFD.out.row
  have HRD3 := Lib.hid hrd3; clear hrd3
  obtain ⟨qR0, qR1⟩ := KR.out.c2
  have jR := KR.out.lt
  have zR := KR.out.frozen
  have HNB := Lib.hid hnb
  have HNF := Lib.hid hnf
  clear hnb hnf hnz
  go_wp2_with fail
  refine name_calls ?_; intro v4 hv4
  have X4 : Hid (Chg (0) (0) w3 v4) := Lib.hid (by rw [hv4]; repeat' (first | with_reducible exact Chg.refl _ _ _ | with_reducible refine Chg.alloc ?_ _ | with_reducible refine Chg.drew ?_ | with_reducible refine Chg.set ?_ (by omega) _))
  have t4 : w3.heap.size ≤ v4.heap.size := X4.out.size
  have Ev4 : Hid (Ex w v4) := Lib.hid (Ew3.out.chg X4.out (by omega))
  clear qR0 qR1 jR zR
  replace KR := Lib.hid (KR.out.chg X4.out (by omega))
  replace HFA := Lib.hid (HFA.out.chg X4.out WHFA.out (by omega))
  replace HFB := Lib.hid (HFB.out.chg X4.out WHFB.out (by omega))
  replace HFC := Lib.hid (HFC.out.chg X4.out WHFC.out (by omega))
  replace HFD := Lib.hid (HFD.out.chg X4.out WHFD.out (by omega))
  replace HRD3 := Lib.hid (HRD3.out.chg X4.out (by omega))
  have L4 : Hid (Rd v4 (some ⟨w3.heap.size, 0, none⟩) ([2, 8, 1, 16, 5, 0] : List Int)) := Lib.hid (by rw [hv4]; repeat' (first | exact Rd.lits _ _ _ | exact Rd.lits_at _ _ _ (by simp) | with_reducible refine Rd.alloc ?_ _))
  clear hv4
  refine (num_c g p3 _ 0 _ [2, 8, 1, 16, 5, 0] _ HRD3.out L4.out (by simp) (by simp) (by omega) (by omega)).mono ?_; rintro r w4 ⟨n4, rfl, hhn4, hrd4, hb4⟩
  have Y4 : Hid (Chg (g) (g + 1) v4 w4) := Lib.hid (Chg.of_grown hb4 (fun b hb => by injection hb with hb; omega))
  have s4 : v4.heap.size ≤ w4.heap.size := Y4.out.size
  have Ew4 : Hid (Ex w w4) := Lib.hid (Ev4.out.chg Y4.out (by omega))
  clear hb4
  replace KR := Lib.hid (KR.out.chg Y4.out (by omega))
  replace HFA := Lib.hid (HFA.out.chg Y4.out WHFA.out (by omega))
  replace HFB := Lib.hid (HFB.out.chg Y4.out WHFB.out (by omega))
  replace HFC := Lib.hid (HFC.out.chg Y4.out WHFC.out (by omega))
  replace HFD := Lib.hid (HFD.out.chg Y4.out WHFD.out (by omega))
  clear HRD3
  have HRD4 := Lib.hid hrd4; clear hrd4
  have HHN4 := Lib.hid hhn4; clear hhn4
  obtain ⟨qR0, qR1⟩ := KR.out.c2
  have jR := KR.out.lt
  have zR := KR.out.frozen
  go_wp2
  exact bodyPost_ret (v := .tuple #[.agg #[.slice A3 t3.buckets.length c3, .slice B3 t3.frames.length d3], .int .i64 n4]) (by simp [results, Tryd.results4, go_sem, *]) rfl
    ⟨t3, A3, c3, B3, d3, n4, rfl, by have := HHN4.out; simp at this; omega, Nat.le_trans HNB.out (by omega), Nat.le_trans HNF.out (by omega), (Fr.mono (B := v3.heap.size) (by repeat' (first | with_reducible exact HFC.out | with_reducible refine Fr.alloc ?_ _ | with_reducible refine Fr.put ?_ (fun b hb => by have := WHFC.out b hb; omega) _)) (by omega)), (Fr.mono (B := v3.heap.size) (by repeat' (first | with_reducible exact HFD.out | with_reducible refine Fr.alloc ?_ _ | with_reducible refine Fr.put ?_ (fun b hb => by have := WHFD.out b hb; omega) _)) (by omega)), (by repeat' (first | with_reducible exact Ew4.out | with_reducible refine Ex.alloc ?_ _ | with_reducible refine Ex.drew ?_ | with_reducible refine Ex.put ?_ (by omega) _))⟩
end Go.Proofs.YtbdlpbladpppjaaDoor
/- A table hashed anew: the keys are put into a new table one after the other. Plain Lean, no walk in sight. -/
namespace Go.Proofs.YtbdlpbladpppjaaDoor
open Go.ChangeShapes Go.WideShapes Go.ChangeAt Go.RowKit
set_option linter.unusedVariables false

def relink (fs : List FrameD) (t0 : TableD) : Nat → TableD
  | 0 => t0
  | k + 1 => if (fs.getD k freeF).used = true then linkT (relink fs t0 k) (fs.getD k freeF).key k (fs.getD k freeF).rights else relink fs t0 k
open Classical in
noncomputable def rehashT (t : TableD) (n : Int) : TableD × Bool := if TableOk t ∧ (1 ≤ n ∧ n ≤ 16) then (relink t.frames (newTable t.frames.length n).1 t.frames.length, true) else (noTable, false)

theorem relink_len (fs : List FrameD) (t0 : TableD) : ∀ k, (relink fs t0 k).frames.length = t0.frames.length ∧ (relink fs t0 k).buckets.length = t0.buckets.length := by
  intro k
  induction k with
  | zero => exact ⟨rfl, rfl⟩
  | succ k ih =>
    unfold relink
    split
    · unfold linkT; simp; exact ih
    · exact ih
/-- Frames that agree but for their links make the same table. -/
theorem relink_congr {fs gs : List FrameD} (t0 : TableD) (h : ∀ i, (fs.getD i freeF).used = (gs.getD i freeF).used ∧ ((fs.getD i freeF).used = true → (fs.getD i freeF).key = (gs.getD i freeF).key ∧ (fs.getD i freeF).rights = (gs.getD i freeF).rights)) : ∀ k, relink fs t0 k = relink gs t0 k := by
  intro k
  induction k with
  | zero => rfl
  | succ k ih =>
    unfold relink
    obtain ⟨h1, h2⟩ := h k
    rw [ih, ← h1]
    by_cases hu : (fs.getD k freeF).used = true
    · rw [if_pos hu, if_pos hu, (h2 hu).1, (h2 hu).2]
    · rw [if_neg hu, if_neg hu]
/-- What the table is after k frames. -/
structure Linked (fs : List FrameD) (t : TableD) (k : Nat) : Prop where
  ok : TableOk t
  old : ∀ (j : Nat) (f : FrameD), j < k → fs[j]? = some f → f.used = true → ∃ g : FrameD, t.frames[j]? = some g ∧ g.used = true ∧ g.key = f.key ∧ g.rights = f.rights
  free : ∀ (j : Nat) (g : FrameD), t.frames[j]? = some g → g.used = true → j < k ∧ ∃ f : FrameD, fs[j]? = some f ∧ f.used = true ∧ g.key = f.key ∧ g.rights = f.rights
theorem relink_linked {t : TableD} (h : TableOk t) {n : Int} (hn : 1 ≤ n ∧ n ≤ 16) : ∀ k, k ≤ t.frames.length → Linked t.frames (relink t.frames (newTable t.frames.length n).1 k) k := by
  have hh : TableHead t := h.1
  unfold TableHead at hh
  obtain ⟨_, hok, hlf, _⟩ := newTable_ok (f := t.frames.length) (b := n) (by omega) hn
  rw [Int.toNat_natCast] at hlf
  have hfr : ∀ (i : Nat) (g : FrameD), (newTable t.frames.length n).1.frames[i]? = some g → g = freeF := fun i g hg => by
    unfold newTable at hg
    rw [if_pos ⟨by omega, hn⟩] at hg
    simp only [List.getElem?_replicate] at hg
    split at hg
    · injection hg with hg; exact hg.symm
    · cases hg
  intro k
  induction k with
  | zero =>
    intro _
    refine ⟨hok, fun j f hj => by omega, fun j g hg hu => ?_⟩
    rw [hfr j g hg] at hu
    cases hu
  | succ k ih =>
    intro hk
    have L := ih (by omega)
    have hlen := (relink_len t.frames (newTable t.frames.length n).1 k).1
    rw [hlf] at hlen
    have hf := List.getElem?_eq_getElem (l := t.frames) (i := k) (by omega)
    unfold relink
    rw [getD_of hf]
    generalize t.frames[k] = f at hf
    generalize relink t.frames (newTable t.frames.length n).1 k = q at L hlen
    by_cases hu : f.used = true
    · rw [if_pos hu]
      have hf1 := h.2.1 k f (getElem?_lt hf) hf
      have hq := List.getElem?_eq_getElem (l := q.frames) (i := k) (by omega)
      have hqu : q.frames[k].used = false := by
        cases e : q.frames[k].used
        · rfl
        · have := (L.free k _ hq e).1; omega
      have hnf : findF q f.key < 0 := by
        rw [findF_none (fun i g hg hgu => ?_)]
        · omega
        obtain ⟨hik, f0, hf0, hu0, e1, _⟩ := L.free i g hg hgu
        rw [e1]
        exact hf1.2 i f0 hik hf0 hu hu0
      refine ⟨linkT_ok L.ok (hf1.1.2 hu).1 (hf1.1.2 hu).2 hq hqu hnf, fun j f' hj hf' hu' => ?_, fun j g hg hgu => ?_⟩
      · by_cases e : j = k
        · subst e
          rw [hf] at hf'
          injection hf' with hf'
          subst hf'
          exact ⟨⟨true, f.key, f.rights, q.buckets.getD (bkOf q f.key) 0⟩, by unfold linkT; exact List.getElem?_set_self (by omega), rfl, rfl, rfl⟩
        · obtain ⟨g, hg, h1, h2, h3⟩ := L.old j f' (by omega) hf' hu'
          exact ⟨g, linkT_keep hq hqu hg h1, h1, h2, h3⟩
      · rcases linkT_get hg with ⟨rfl, rfl, _⟩ | ⟨_, hg'⟩
        · exact ⟨by omega, f, hf, hu, rfl, rfl⟩
        · obtain ⟨h1, h2⟩ := L.free j g hg' hgu
          exact ⟨by omega, h2⟩
    · rw [if_neg hu]
      refine ⟨L.ok, fun j f' hj hf' hu' => ?_, fun j g hg hgu => ?_⟩
      · by_cases e : j = k
        · subst e
          rw [hf] at hf'
          injection hf' with hf'
          subst hf'
          exact absurd hu' hu
        · exact L.old j f' (by omega) hf' hu'
      · obtain ⟨h1, h2⟩ := L.free j g hg hgu
        exact ⟨by omega, h2⟩
theorem Linked.same {t : TableD} (h : TableOk t) {q : TableD} (L : Linked t.frames q t.frames.length) (hl : q.frames.length = t.frames.length) : ∀ i, (q.frames.getD i freeF).used = (t.frames.getD i freeF).used ∧ ((q.frames.getD i freeF).used = true → (q.frames.getD i freeF).key = (t.frames.getD i freeF).key ∧ (q.frames.getD i freeF).rights = (t.frames.getD i freeF).rights) := by
  intro i
  by_cases hi : i < t.frames.length
  · have hf := List.getElem?_eq_getElem hi
    have hq := List.getElem?_eq_getElem (l := q.frames) (i := i) (by omega)
    rw [getD_of hf, getD_of hq]
    generalize t.frames[i] = f at hf ⊢
    generalize q.frames[i] = g at hq ⊢
    cases hgu : g.used
    · refine ⟨?_, fun e => by cases e⟩
      cases hfu : f.used
      · rfl
      · obtain ⟨g', hg', e1, _⟩ := L.old i f hi hf hfu
        rw [hq] at hg'
        injection hg' with hg'
        subst hg'
        rw [hgu] at e1
        cases e1
    · obtain ⟨_, f', hf', e1, e2, e3⟩ := L.free i g hq hgu
      rw [hf] at hf'
      injection hf' with hf'
      subst hf'
      exact ⟨e1.symm, fun _ => ⟨e2, e3⟩⟩
  · have h1 : t.frames.getD i freeF = freeF := by rw [List.getD_eq_getElem?_getD, List.getElem?_eq_none (by omega)]; rfl
    have h2 : q.frames.getD i freeF = freeF := by rw [List.getD_eq_getElem?_getD, List.getElem?_eq_none (by omega)]; rfl
    rw [h1, h2]
    exact ⟨rfl, fun _ => ⟨rfl, rfl⟩⟩
/-- Hashing anew what was hashed anew is hashing anew. -/
theorem rehash_again {t : TableD} (h : TableOk t) {n m : Int} (hn : 1 ≤ n ∧ n ≤ 16) (hm : 1 ≤ m ∧ m ≤ 16) : rehashT (rehashT t n).1 m = rehashT t m := by
  have hh : TableHead t := h.1
  unfold TableHead at hh
  have L := relink_linked h hn _ (Nat.le_refl _)
  obtain ⟨_, _, hlf, _⟩ := newTable_ok (f := t.frames.length) (b := n) (by omega) hn
  rw [Int.toNat_natCast] at hlf
  have hl := (relink_len t.frames (newTable t.frames.length n).1 t.frames.length).1
  rw [hlf] at hl
  have e1 : rehashT t n = (relink t.frames (newTable t.frames.length n).1 t.frames.length, true) := if_pos ⟨h, hn⟩
  have e2 : rehashT t m = (relink t.frames (newTable t.frames.length m).1 t.frames.length, true) := if_pos ⟨h, hm⟩
  rw [e1, e2]
  unfold rehashT
  rw [if_pos ⟨L.ok, hm⟩, hl]
  rw [relink_congr _ (L.same h hl)]
theorem rehash_ok {t : TableD} (h : TableOk t) {n : Int} (hn : 1 ≤ n ∧ n ≤ 16) : (rehashT t n).2 = true ∧ TableOk (rehashT t n).1 ∧ (rehashT t n).1.frames.length = t.frames.length ∧ (rehashT t n).1.buckets.length = n.toNat := by
  have hh : TableHead t := h.1
  unfold TableHead at hh
  have L := relink_linked h hn _ (Nat.le_refl _)
  obtain ⟨_, _, hlf, hlb⟩ := newTable_ok (f := t.frames.length) (b := n) (by omega) hn
  rw [Int.toNat_natCast] at hlf
  have hl := relink_len t.frames (newTable t.frames.length n).1 t.frames.length
  rw [hlf, hlb] at hl
  unfold rehashT
  rw [if_pos ⟨h, hn⟩]
  exact ⟨rfl, L.ok, hl.1, hl.2⟩
/-! ### One bucket -/
theorem usedIx_succ (fs : List FrameD) (k : Nat) : usedIx fs (k + 1) = usedIx fs k ++ (if (fs.getD k freeF).used = true then [k] else []) := by
  unfold usedIx
  rw [List.range_succ, List.filter_append]
  congr 1
  rw [List.getD_eq_getElem?_getD]
  cases h : fs[k]? with
  | none => simp [h, freeF]
  | some f => cases hu : f.used <;> simp [h, hu]
theorem one_chain {t : TableD} (h : TableOk t) : ∀ k, k ≤ t.frames.length → ∃ a : Int, (relink t.frames (newTable t.frames.length 1).1 k).buckets = [a] ∧ Chain (relink t.frames (newTable t.frames.length 1).1 k).frames a (usedIx t.frames k).reverse := by
  have hh : TableHead t := h.1
  unfold TableHead at hh
  intro k
  induction k with
  | zero =>
    intro _
    refine ⟨-1, ?_, .nil⟩
    show (newTable t.frames.length 1).1.buckets = [-1]
    unfold newTable
    rw [if_pos (by omega)]
    rfl
  | succ k ih =>
    intro hk
    obtain ⟨a, hb, hc⟩ := ih (by omega)
    have L := relink_linked h (n := 1) (by omega) k (by omega)
    obtain ⟨_, _, hlf, _⟩ := newTable_ok (f := t.frames.length) (b := 1) (by omega) (by omega)
    rw [Int.toNat_natCast] at hlf
    have hlen := (relink_len t.frames (newTable t.frames.length 1).1 k).1
    rw [hlf] at hlen
    have hf := List.getElem?_eq_getElem (l := t.frames) (i := k) (by omega)
    rw [usedIx_succ]
    unfold relink
    rw [getD_of hf]
    generalize t.frames[k] = f at hf
    generalize relink t.frames (newTable t.frames.length 1).1 k = q at hb hc L hlen
    by_cases hu : f.used = true
    · rw [if_pos hu, if_pos hu]
      have hf1 := h.2.1 k f (getElem?_lt hf) hf
      have hbk : bkOf q f.key = 0 := by
        have := bkOf_lt L.ok.1 (hf1.1.2 hu).1
        rw [hb] at this
        simp at this
        exact this.1
      refine ⟨(k : Int), by unfold linkT; rw [hbk, hb]; rfl, ?_⟩
      rw [List.reverse_append, List.reverse_singleton, List.singleton_append]
      refine .cons (f := ⟨true, f.key, f.rights, a⟩) ?_ rfl ?_
      · unfold linkT
        rw [hbk, hb]
        exact List.getElem?_set_self (by omega)
      · refine hc.set_free _ (fun hm => ?_)
        have := (mem_usedIx.1 (List.mem_reverse.1 hm)).1
        omega
    · rw [if_neg hu, if_neg hu, List.append_nil]
      exact ⟨a, hb, hc⟩
/-- The one chain of a table with one bucket: all that is used, from the last to the first. -/
theorem rehash_one {t : TableD} (h : TableOk t) : ∃ a : Int, (rehashT t 1).1.buckets = [a] ∧ Chain (rehashT t 1).1.frames a (usedIx t.frames t.frames.length).reverse := by
  unfold rehashT
  rw [if_pos ⟨h, by omega⟩]
  exact one_chain h _ (Nat.le_refl _)
theorem usedIx_up (fs : List FrameD) : ∀ k, (usedIx fs k).Pairwise (· < ·) := by
  intro k
  unfold usedIx
  exact List.Pairwise.sublist List.filter_sublist List.pairwise_lt_range
theorem usedIx_down {fs : List FrameD} {k i a b : Nat} (h1 : (usedIx fs k).reverse[i]? = some a) (h2 : (usedIx fs k).reverse[i + 1]? = some b) : b < a := by
  have hp := List.pairwise_reverse.2 (usedIx_up fs k)
  have l1 := getElem?_lt h1
  have l2 := getElem?_lt h2
  have := List.pairwise_iff_getElem.1 hp i (i + 1) l1 l2 (by omega)
  rw [List.getElem?_eq_getElem l1] at h1
  rw [List.getElem?_eq_getElem l2] at h2
  injection h1 with h1
  injection h2 with h2
  omega
end Go.Proofs.YtbdlpbladpppjaaDoor
/- A table hashed anew: the reference's RehashTable. -/
namespace Go.Proofs.YtbdlpbladpppjaaDoor
open Go.ChangeShapes Go.WideShapes Go.ChangeAt Go.RowKit
open Rec (sz cs)
set_option linter.unusedVariables false
set_option maxRecDepth 100000

def LoopR (w : World) (gN fl nb : Nat) (A : Option Addr) (c : Nat) (B : Option Addr) (d : Nat) (rl : Nat → TableD) (i : Value) (wr : World) : Prop := ∃ (k : Nat) (A' : Option Addr) (c' : Nat) (B' : Option Addr) (d' : Nat), i = .int .i64 k ∧ k ≤ fl ∧ Blk wr gN 26 [.slice A' (rl k).buckets.length c', .slice B' (rl k).frames.length d'] ∧ Fr 3 wr w.heap.size A' c' (rl k).buckets ∧ Fr 47 wr w.heap.size B' d' (rl k).frames ∧ Ex w wr ∧ Blk wr w.heap.size 26 [.slice A nb c, .slice B fl d] ∧ Blk wr (w.heap.size + 1) 26 [.slice none 0 0, .slice none 0 0]

set_option maxHeartbeats 8000000 in
theorem rehashS_c (t : TableD) (A : Option Addr) (c : Nat) (B : Option Addr) (d : Nat) (n : Int) (w : World) (hx : Rd w A t.buckets) (hy : Rd w B t.frames) (hb : t.buckets.length ≤ 1048576) (hm : t.frames.length ≤ 1048576) :
    Calls Tryd.prog 6 #[.agg #[.slice A t.buckets.length c, .slice B t.frames.length d], .int .i64 n] w (TabOr (rehashT t n) w) := by
  have C1 := Lib.hid (newTableS_c t.frames.length n)
  have C2 := Lib.hid (fun w' (h : Ex w w') => tableS_c t A c B d w' (hx.ex h) (hy.ex h) hb hm)
  have HY := Lib.hid hy
  by_cases hbad : TableOk t ∧ (1 ≤ n ∧ n ≤ 16)
  rotate_left
  · have HN : rehashT t n = (noTable, false) := by unfold rehashT; rw [if_neg hbad]
    rw [HN]
    clear HN
    by_cases hok : TableOk t
    · have e : newTable t.frames.length n = (noTable, false) := by unfold newTable; rw [if_neg (fun h => hbad ⟨hok, h.2⟩)]
      rw [tableV_yes hok] at C2
      obtain ⟨q, e'⟩ : ∃ q, newTable t.frames.length n = (q, false) := ⟨_, e⟩
      rw [e'] at C1
      clear e'
      dsimp only at C1
      clear e hok
      clear hx hy hb hm HY hbad
      generalize t.buckets.length = m at C1 C2 ⊢
      generalize t.frames.length = fl at C1 C2 ⊢
      go_enter Tryd.func6, Tryd.ntmps6
      go_wp2_with fail
      refine name_calls ?_; intro v1 hv1
      have X1 : Hid (Chg (0) (0) w v1) := Lib.hid (by rw [hv1]; repeat' (first | with_reducible exact Chg.refl _ _ _ | with_reducible refine Chg.alloc ?_ _ | with_reducible refine Chg.drew ?_ | with_reducible refine Chg.set ?_ (by omega) _))
      have t1 : w.heap.size ≤ v1.heap.size := X1.out.size
      have Ev1 : Hid (Ex w v1) := Lib.hid ((Ex.refl w).chg X1.out (by omega))
      have KX : Hid (Blk v1 (w.heap.size) 26 [.slice A m c, .slice B fl d]) := Lib.hid (by rw [hv1]; repeat' (first | with_reducible exact Blk.new_at _ _ _ (by simp) | with_reducible refine Blk.alloc ?_ _ | with_reducible refine Blk.drew ?_ | with_reducible refine Blk.far ?_ (by simp; omega) _))
      have lX : w.heap.size < v1.heap.size := KX.out.lt
      have KR : Hid (Blk v1 (w.heap.size + 1) 26 [.slice none 0 0, .slice none 0 0]) := Lib.hid (by rw [hv1]; repeat' (first | with_reducible exact Blk.new_at _ _ _ (by simp) | with_reducible refine Blk.alloc ?_ _ | with_reducible refine Blk.drew ?_ | with_reducible refine Blk.far ?_ (by simp; omega) _))
      have lR : w.heap.size + 1 < v1.heap.size := KR.out.lt
      clear hv1
      refine (C1.out _).mono ?_; rintro r w1 ⟨A1, c1, B1, d1, rfl, hfa, hfb, hb1⟩
      have Y1 : Hid (Chg 0 0 v1 w1) := Lib.hid (Chg.of_ex hb1)
      have s1 : v1.heap.size ≤ w1.heap.size := Y1.out.size
      have Ew1 : Hid (Ex w w1) := Lib.hid (Ev1.out.chg Y1.out (by omega))
      clear hb1
      replace KX := Lib.hid (KX.out.chg Y1.out (by omega))
      replace KR := Lib.hid (KR.out.chg Y1.out (by omega))
      have HFA := Lib.hid hfa; clear hfa
      have WHFA := Lib.hid HFA.out.row
      have HFB := Lib.hid hfb; clear hfb
      have WHFB := Lib.hid HFB.out.row
      obtain ⟨qX0, qX1⟩ := KX.out.c2
      have jX := KX.out.lt
      obtain ⟨qR0, qR1⟩ := KR.out.c2
      have jR := KR.out.lt
      have zR := KR.out.frozen
      go_wp2_with fail
      refine name_calls ?_; intro v2 hv2
      have X2 : Hid (Chg (0) (0) w1 v2) := Lib.hid (by rw [hv2]; repeat' (first | with_reducible exact Chg.refl _ _ _ | with_reducible refine Chg.alloc ?_ _ | with_reducible refine Chg.drew ?_ | with_reducible refine Chg.set ?_ (by omega) _))
      have t2 : w1.heap.size ≤ v2.heap.size := X2.out.size
      have Ev2 : Hid (Ex w v2) := Lib.hid (Ew1.out.chg X2.out (by omega))
      clear qX0 qX1 jX
      clear qR0 qR1 jR zR
      replace KX := Lib.hid (KX.out.chg X2.out (by omega))
      replace KR := Lib.hid (KR.out.chg X2.out (by omega))
      replace HFA := Lib.hid (HFA.out.chg X2.out WHFA.out (by omega))
      replace HFB := Lib.hid (HFB.out.chg X2.out WHFB.out (by omega))
      have KN : Hid (Blk v2 (w1.heap.size) 26 [.slice A1 q.buckets.length c1, .slice B1 q.frames.length d1]) := Lib.hid (by rw [hv2]; repeat' (first | with_reducible exact Blk.new_at _ _ _ (by simp) | with_reducible refine Blk.alloc ?_ _ | with_reducible refine Blk.drew ?_ | with_reducible refine Blk.far ?_ (by simp; omega) _))
      have lN : w1.heap.size < v2.heap.size := KN.out.lt
      clear hv2
      refine (C2.out _ Ev2.out).mono ?_; rintro r w2 ⟨rfl, hb2⟩
      have Y2 : Hid (Chg 0 0 v2 w2) := Lib.hid (Chg.of_ex hb2)
      have s2 : v2.heap.size ≤ w2.heap.size := Y2.out.size
      have Ew2 : Hid (Ex w w2) := Lib.hid (Ev2.out.chg Y2.out (by omega))
      clear hb2
      replace KX := Lib.hid (KX.out.chg Y2.out (by omega))
      replace KR := Lib.hid (KR.out.chg Y2.out (by omega))
      replace KN := Lib.hid (KN.out.chg Y2.out (by omega))
      replace HFA := Lib.hid (HFA.out.chg Y2.out WHFA.out (by omega))
      replace HFB := Lib.hid (HFB.out.chg Y2.out WHFB.out (by omega))
      obtain ⟨qX0, qX1⟩ := KX.out.c2
      have jX := KX.out.lt
      obtain ⟨qR0, qR1⟩ := KR.out.c2
      have jR := KR.out.lt
      have zR := KR.out.frozen
      obtain ⟨qN0, qN1⟩ := KN.out.c2
      have jN := KN.out.lt
      go_wp2
      exact bodyPost_ret (v := .tuple #[.agg #[.slice none 0 0, .slice none 0 0], .bool false]) (by simp [results, Tryd.results6, go_sem, *]) rfl
        ⟨none, 0, none, 0, rfl, Fr.none_ _ _ _ _, Fr.none_ _ _ _ _, (by repeat' (first | with_reducible exact Ew2.out | with_reducible refine Ex.alloc ?_ _ | with_reducible refine Ex.drew ?_ | with_reducible refine Ex.put ?_ (by omega) _))⟩
    · rw [tableV_no hok] at C2
      generalize newTable t.frames.length n = q at C1
      obtain ⟨q, bq⟩ := q
      dsimp only at C1
      clear hok
      clear hx hy hb hm HY hbad
      generalize t.buckets.length = m at C1 C2 ⊢
      generalize t.frames.length = fl at C1 C2 ⊢
      go_enter Tryd.func6, Tryd.ntmps6
      go_wp2_with fail
      refine name_calls ?_; intro v1 hv1
      have X1 : Hid (Chg (0) (0) w v1) := Lib.hid (by rw [hv1]; repeat' (first | with_reducible exact Chg.refl _ _ _ | with_reducible refine Chg.alloc ?_ _ | with_reducible refine Chg.drew ?_ | with_reducible refine Chg.set ?_ (by omega) _))
      have t1 : w.heap.size ≤ v1.heap.size := X1.out.size
      have Ev1 : Hid (Ex w v1) := Lib.hid ((Ex.refl w).chg X1.out (by omega))
      have KX : Hid (Blk v1 (w.heap.size) 26 [.slice A m c, .slice B fl d]) := Lib.hid (by rw [hv1]; repeat' (first | with_reducible exact Blk.new_at _ _ _ (by simp) | with_reducible refine Blk.alloc ?_ _ | with_reducible refine Blk.drew ?_ | with_reducible refine Blk.far ?_ (by simp; omega) _))
      have lX : w.heap.size < v1.heap.size := KX.out.lt
      have KR : Hid (Blk v1 (w.heap.size + 1) 26 [.slice none 0 0, .slice none 0 0]) := Lib.hid (by rw [hv1]; repeat' (first | with_reducible exact Blk.new_at _ _ _ (by simp) | with_reducible refine Blk.alloc ?_ _ | with_reducible refine Blk.drew ?_ | with_reducible refine Blk.far ?_ (by simp; omega) _))
      have lR : w.heap.size + 1 < v1.heap.size := KR.out.lt
      clear hv1
      refine (C1.out _).mono ?_; rintro r w1 ⟨A1, c1, B1, d1, rfl, hfa, hfb, hb1⟩
      have Y1 : Hid (Chg 0 0 v1 w1) := Lib.hid (Chg.of_ex hb1)
      have s1 : v1.heap.size ≤ w1.heap.size := Y1.out.size
      have Ew1 : Hid (Ex w w1) := Lib.hid (Ev1.out.chg Y1.out (by omega))
      clear hb1
      replace KX := Lib.hid (KX.out.chg Y1.out (by omega))
      replace KR := Lib.hid (KR.out.chg Y1.out (by omega))
      have HFA := Lib.hid hfa; clear hfa
      have WHFA := Lib.hid HFA.out.row
      have HFB := Lib.hid hfb; clear hfb
      have WHFB := Lib.hid HFB.out.row
      obtain ⟨qX0, qX1⟩ := KX.out.c2
      have jX := KX.out.lt
      obtain ⟨qR0, qR1⟩ := KR.out.c2
      have jR := KR.out.lt
      have zR := KR.out.frozen
      go_wp2_with fail
      refine name_calls ?_; intro v2 hv2
      have X2 : Hid (Chg (0) (0) w1 v2) := Lib.hid (by rw [hv2]; repeat' (first | with_reducible exact Chg.refl _ _ _ | with_reducible refine Chg.alloc ?_ _ | with_reducible refine Chg.drew ?_ | with_reducible refine Chg.set ?_ (by omega) _))
      have t2 : w1.heap.size ≤ v2.heap.size := X2.out.size
      have Ev2 : Hid (Ex w v2) := Lib.hid (Ew1.out.chg X2.out (by omega))
      clear qX0 qX1 jX
      clear qR0 qR1 jR zR
      replace KX := Lib.hid (KX.out.chg X2.out (by omega))
      replace KR := Lib.hid (KR.out.chg X2.out (by omega))
      replace HFA := Lib.hid (HFA.out.chg X2.out WHFA.out (by omega))
      replace HFB := Lib.hid (HFB.out.chg X2.out WHFB.out (by omega))
      have KN : Hid (Blk v2 (w1.heap.size) 26 [.slice A1 q.buckets.length c1, .slice B1 q.frames.length d1]) := Lib.hid (by rw [hv2]; repeat' (first | with_reducible exact Blk.new_at _ _ _ (by simp) | with_reducible refine Blk.alloc ?_ _ | with_reducible refine Blk.drew ?_ | with_reducible refine Blk.far ?_ (by simp; omega) _))
      have lN : w1.heap.size < v2.heap.size := KN.out.lt
      clear hv2
      refine (C2.out _ Ev2.out).mono ?_; rintro r w2 ⟨rfl, hb2⟩
      have Y2 : Hid (Chg 0 0 v2 w2) := Lib.hid (Chg.of_ex hb2)
      have s2 : v2.heap.size ≤ w2.heap.size := Y2.out.size
      have Ew2 : Hid (Ex w w2) := Lib.hid (Ev2.out.chg Y2.out (by omega))
      clear hb2
      replace KX := Lib.hid (KX.out.chg Y2.out (by omega))
      replace KR := Lib.hid (KR.out.chg Y2.out (by omega))
      replace KN := Lib.hid (KN.out.chg Y2.out (by omega))
      replace HFA := Lib.hid (HFA.out.chg Y2.out WHFA.out (by omega))
      replace HFB := Lib.hid (HFB.out.chg Y2.out WHFB.out (by omega))
      obtain ⟨qX0, qX1⟩ := KX.out.c2
      have jX := KX.out.lt
      obtain ⟨qR0, qR1⟩ := KR.out.c2
      have jR := KR.out.lt
      have zR := KR.out.frozen
      obtain ⟨qN0, qN1⟩ := KN.out.c2
      have jN := KN.out.lt
      go_wp2
      exact bodyPost_ret (v := .tuple #[.agg #[.slice none 0 0, .slice none 0 0], .bool false]) (by simp [results, Tryd.results6, go_sem, *]) rfl
        ⟨none, 0, none, 0, rfl, Fr.none_ _ _ _ _, Fr.none_ _ _ _ _, (by repeat' (first | with_reducible exact Ew2.out | with_reducible refine Ex.alloc ?_ _ | with_reducible refine Ex.drew ?_ | with_reducible refine Ex.put ?_ (by omega) _))⟩
  · have HN : rehashT t n = (relink t.frames (newTable t.frames.length n).1 t.frames.length, true) := by unfold rehashT; rw [if_pos hbad]
    obtain ⟨hok, hn⟩ := hbad
    have few := hok.1
    unfold TableHead at few
    obtain ⟨e2, hqok, hlf, hlb⟩ := newTable_ok (f := t.frames.length) (b := n) (by omega) hn
    rw [Int.toNat_natCast] at hlf
    rw [tableV_yes hok] at C2
    have HL : Hid (∀ k, (relink t.frames (newTable t.frames.length n).1 k).frames.length = t.frames.length ∧ (relink t.frames (newTable t.frames.length n).1 k).buckets.length = n.toNat) := Lib.hid (fun k => by
      have := relink_len t.frames (newTable t.frames.length n).1 k
      rw [hlf, hlb] at this
      exact this)
    have KEY : Hid (∀ (k : Nat) (f : FrameD), t.frames[k]? = some f → f.used = true → keyOk f.key) := Lib.hid (fun k f hf hu => ((hok.2.1 k f (getElem?_lt hf) hf).1.2 hu).1)
    rw [HN]
    clear HN
    have R0 : Hid (relink t.frames (newTable t.frames.length n).1 0 = (newTable t.frames.length n).1) := Lib.hid rfl
    have RY : Hid (∀ (k : Nat) (f : FrameD), t.frames[k]? = some f → f.used = true → relink t.frames (newTable t.frames.length n).1 (k + 1) = linkT (relink t.frames (newTable t.frames.length n).1 k) f.key k f.rights) := Lib.hid (fun k f hf hu => by
      rw [relink, getD_of hf, if_pos hu])
    have RN : Hid (∀ (k : Nat) (f : FrameD), t.frames[k]? = some f → f.used = false → relink t.frames (newTable t.frames.length n).1 (k + 1) = relink t.frames (newTable t.frames.length n).1 k) := Lib.hid (fun k f hf hu => by
      rw [relink, getD_of hf, if_neg (by rw [hu]; decide)])
    generalize relink t.frames (newTable t.frames.length n).1 = rl at HL R0 RY RN ⊢
    generalize newTable t.frames.length n = q at C1 R0 e2
    obtain ⟨q, bq⟩ := q
    dsimp only at C1 R0 e2
    subst e2
    obtain ⟨xs, ys⟩ := t
    dsimp only at C1 C2 HY HL KEY RY RN few ⊢
    have hnb : 1 ≤ n.toNat ∧ n.toNat ≤ 16 := by omega
    clear hx hy hok hqok hlf hlb hn hb hm
    have CE : Hid (∀ (args : Array Value) (w : World), (callFunc 19 args).run Tryd.prog w = .ok (.enter 19 args) w) := Lib.hid (enters Tryd.func19 (by kernel_rfl) (by kernel_rfl))
    go_enter Tryd.func6, Tryd.ntmps6
    go_wp2_with fail
    refine name_calls ?_; intro v1 hv1
    have X1 : Hid (Chg (0) (0) w v1) := Lib.hid (by rw [hv1]; repeat' (first | with_reducible exact Chg.refl _ _ _ | with_reducible refine Chg.alloc ?_ _ | with_reducible refine Chg.drew ?_ | with_reducible refine Chg.set ?_ (by omega) _))
    have t1 : w.heap.size ≤ v1.heap.size := X1.out.size
    have Ev1 : Hid (Ex w v1) := Lib.hid ((Ex.refl w).chg X1.out (by omega))
    have KX : Hid (Blk v1 (w.heap.size) 26 [.slice A xs.length c, .slice B ys.length d]) := Lib.hid (by rw [hv1]; repeat' (first | with_reducible exact Blk.new_at _ _ _ (by simp) | with_reducible refine Blk.alloc ?_ _ | with_reducible refine Blk.drew ?_ | with_reducible refine Blk.far ?_ (by simp; omega) _))
    have lX : w.heap.size < v1.heap.size := KX.out.lt
    have KR : Hid (Blk v1 (w.heap.size + 1) 26 [.slice none 0 0, .slice none 0 0]) := Lib.hid (by rw [hv1]; repeat' (first | with_reducible exact Blk.new_at _ _ _ (by simp) | with_reducible refine Blk.alloc ?_ _ | with_reducible refine Blk.drew ?_ | with_reducible refine Blk.far ?_ (by simp; omega) _))
    have lR : w.heap.size + 1 < v1.heap.size := KR.out.lt
    clear hv1
    refine (C1.out _).mono ?_; rintro r w1 ⟨A1, c1, B1, d1, rfl, hfa, hfb, hb1⟩
    have Y1 : Hid (Chg 0 0 v1 w1) := Lib.hid (Chg.of_ex hb1)
    have s1 : v1.heap.size ≤ w1.heap.size := Y1.out.size
    have Ew1 : Hid (Ex w w1) := Lib.hid (Ev1.out.chg Y1.out (by omega))
    clear hb1
    replace KX := Lib.hid (KX.out.chg Y1.out (by omega))
    replace KR := Lib.hid (KR.out.chg Y1.out (by omega))
    have HFA := Lib.hid hfa; clear hfa
    have WHFA := Lib.hid HFA.out.row
    have HFB := Lib.hid hfb; clear hfb
    have WHFB := Lib.hid HFB.out.row
    obtain ⟨qX0, qX1⟩ := KX.out.c2
    have jX := KX.out.lt
    obtain ⟨qR0, qR1⟩ := KR.out.c2
    have jR := KR.out.lt
    have zR := KR.out.frozen
    go_wp2_with fail
    refine name_calls ?_; intro v2 hv2
    have X2 : Hid (Chg (0) (0) w1 v2) := Lib.hid (by rw [hv2]; repeat' (first | with_reducible exact Chg.refl _ _ _ | with_reducible refine Chg.alloc ?_ _ | with_reducible refine Chg.drew ?_ | with_reducible refine Chg.set ?_ (by omega) _))
    have t2 : w1.heap.size ≤ v2.heap.size := X2.out.size
    have Ev2 : Hid (Ex w v2) := Lib.hid (Ew1.out.chg X2.out (by omega))
    clear qX0 qX1 jX
    clear qR0 qR1 jR zR
    replace KX := Lib.hid (KX.out.chg X2.out (by omega))
    replace KR := Lib.hid (KR.out.chg X2.out (by omega))
    replace HFA := Lib.hid (HFA.out.chg X2.out WHFA.out (by omega))
    replace HFB := Lib.hid (HFB.out.chg X2.out WHFB.out (by omega))
    have KN : Hid (Blk v2 (w1.heap.size) 26 [.slice A1 q.buckets.length c1, .slice B1 q.frames.length d1]) := Lib.hid (by rw [hv2]; repeat' (first | with_reducible exact Blk.new_at _ _ _ (by simp) | with_reducible refine Blk.alloc ?_ _ | with_reducible refine Blk.drew ?_ | with_reducible refine Blk.far ?_ (by simp; omega) _))
    have lN : w1.heap.size < v2.heap.size := KN.out.lt
    clear hv2
    refine (C2.out _ Ev2.out).mono ?_; rintro r w2 ⟨rfl, hb2⟩
    have Y2 : Hid (Chg 0 0 v2 w2) := Lib.hid (Chg.of_ex hb2)
    have s2 : v2.heap.size ≤ w2.heap.size := Y2.out.size
    have Ew2 : Hid (Ex w w2) := Lib.hid (Ev2.out.chg Y2.out (by omega))
    clear hb2
    replace KX := Lib.hid (KX.out.chg Y2.out (by omega))
    replace KR := Lib.hid (KR.out.chg Y2.out (by omega))
    replace KN := Lib.hid (KN.out.chg Y2.out (by omega))
    replace HFA := Lib.hid (HFA.out.chg Y2.out WHFA.out (by omega))
    replace HFB := Lib.hid (HFB.out.chg Y2.out WHFB.out (by omega))
    obtain ⟨qX0, qX1⟩ := KX.out.c2
    have jX := KX.out.lt
    obtain ⟨qR0, qR1⟩ := KR.out.c2
    have jR := KR.out.lt
    have zR := KR.out.frozen
    obtain ⟨qN0, qN1⟩ := KN.out.c2
    have jN := KN.out.lt
    obtain ⟨gN, hgN⟩ : ∃ gN, gN = w1.heap.size := ⟨_, rfl⟩
    rw [← hgN] at KN lN jN qN0 qN1 ⊢
    have hgl : w.heap.size + 1 < gN := by omega
    have HST : Hid (LoopR w gN ys.length xs.length A c B d rl (.int .i64 (0 : Nat)) w2) := Lib.hid ⟨0, A1, c1, B1, d1, rfl, Nat.zero_le _, by rw [R0.out]; exact KN.out, by rw [R0.out]; exact HFA.out.mono (by omega), by rw [R0.out]; exact HFB.out.mono (by omega), Ew2.out, KX.out, KR.out⟩
    clear hgN C1 C2 R0 qN0 qN1 jN lN KN qX0 qX1 jX KX qR0 qR1 jR KR HFA HFB WHFA WHFB
    go_wp2
    go_loopw [8] (fun i wr => LoopR w gN ys.length xs.length A c B d rl i wr) (fun i _ => ys.length - (intOf i).toNat)
    case atStart => exact HST.out
    case round =>
      clear HST
      obtain ⟨k, A5, c5, B5, d5, rfl, hk, hkn, hfa, hfb, hew, hkx, hkr⟩ := hrel
      have KN := Lib.hid hkn
      have HFA := Lib.hid hfa
      have HFB := Lib.hid hfb
      have Ewr := Lib.hid hew
      have KX := Lib.hid hkx
      have KR := Lib.hid hkr
      have hsz := Ewr.out.size
      have ol := KN.out.lt
      clear hkn hfa hfb hew hkx hkr
      by_cases hlt : k < ys.length
      rotate_left
      · have hk0 : k = ys.length := by omega
        subst hk0
        obtain ⟨o0, o1⟩ := KN.out.c2
        obtain ⟨x0, x1⟩ := KX.out.c2
        obtain ⟨qR0, qR1⟩ := KR.out.c2
        have jR := KR.out.lt
        have zR := KR.out.frozen
        have HNB := Lib.hid (HFA.out.off KR.out (by decide))
        have HNF := Lib.hid (HFB.out.off KR.out (by decide))
        go_wp2
        exact bodyPost_ret (v := .tuple #[.agg #[.slice A5 (rl ys.length).buckets.length c5, .slice B5 (rl ys.length).frames.length d5], .bool true]) (by simp [results, Tryd.results6, go_sem, *]) rfl
          ⟨A5, c5, B5, d5, rfl, by repeat' (first | with_reducible exact HFA.out | with_reducible refine Fr.put ?_ HNB.out _), by repeat' (first | with_reducible exact HFB.out | with_reducible refine Fr.put ?_ HNF.out _), (by repeat' (first | with_reducible exact Ewr.out | with_reducible refine Ex.alloc ?_ _ | with_reducible refine Ex.drew ?_ | with_reducible refine Ex.put ?_ (by omega) _))⟩
      obtain ⟨b2, o2, f, rfl, hb2', hf, k0, k1, k2, k3, k4⟩ := HY.out.frame hlt
      replace k0 := (Ewr.out.cell hb2').trans k0
      replace k1 := (Ewr.out.cell hb2').trans k1
      replace k2 := (Ewr.out.cell hb2').trans k2
      replace k3 := (Ewr.out.cell hb2').trans k3
      have hb2 : b2 < wr.heap.size := by omega
      have hi' : ¬ ((ys.length : Int) ≤ (k : Int)) := by omega
      have hi2 : (k : Int) < (ys.length : Int) := by omega
      have hi0 : ¬ (k : Int) < 0 := by omega
      have HF := Lib.hid hf
      have HLK := HL.out k
      obtain ⟨x0, x1⟩ := KX.out.c2
      cases hu : f.used
      · rw [hu] at k0
        have HE := Lib.hid (RN.out k f hf hu)
        clear hf k1 k2 k3 k4 hu
        go_wp2
        go_roundw
        case rel => exact ⟨k + 1, A5, c5, B5, d5, by go_num, by omega, by rw [HE.out]; exact KN.out, by rw [HE.out]; exact HFA.out, by rw [HE.out]; exact HFB.out, Ewr.out, KX.out, KR.out⟩
        case measure => simp [intOf]; omega
      · rw [hu] at k0
        have HE := Lib.hid (RY.out k f hf hu)
        have hkey := KEY.out k f hf hu
        have CM : Hid (∀ v, Ex wr v → Calls Tryd.prog 19 #[.agg #[.slice A5 (rl k).buckets.length c5, .slice B5 (rl k).frames.length d5], .agg #[.int .i64 f.key.space, .int .i64 f.key.page], .int .i64 k, .int .i64 f.rights] v (TabIs (rl (k + 1)) v)) := Lib.hid (fun v h => by
          rw [HE.out]
          exact l3Map_c (rl k) A5 c5 B5 d5 f.key k f.rights v (HFA.out.rd.ex h) (HFB.out.rd.ex h) HFA.out.le HFB.out.le HFA.out.cap HFB.out.cap (by omega) (by omega) (by omega) (by omega) hkey)
        have FN : Hid (∀ v, Ex wr v → Blk v gN 26 [.slice A5 (rl k).buckets.length c5, .slice B5 (rl k).frames.length d5] ∧ Blk v w.heap.size 26 [.slice A xs.length c, .slice (some ⟨b2, o2, none⟩) ys.length d] ∧ Blk v (w.heap.size + 1) 26 [.slice none 0 0, .slice none 0 0]) := Lib.hid (fun v h => ⟨KN.out.ex h, KX.out.ex h, KR.out.ex h⟩)
        have FK : Hid (∀ w', Ex wr w' → (w'.cell? ⟨w.heap.size, 1, none⟩ = some (.slice (some ⟨b2, o2, none⟩) ys.length d) ∧ w'.cell? ⟨b2, o2 + k * 5 + 1, none⟩ = some (.int .i64 f.key.space) ∧ w'.cell? ⟨b2, o2 + k * 5 + 2, none⟩ = some (.int .i64 f.key.page) ∧ w'.cell? ⟨b2, o2 + k * 5 + 3, none⟩ = some (.int .i64 f.rights))) := Lib.hid (fun w' h => ⟨(KX.out.ex h).c2.2, (h.cell hb2).trans k1, (h.cell hb2).trans k2, (h.cell hb2).trans k3⟩)
        clear hf k1 k2 k3 k4 hu hkey HLK
        obtain ⟨y0, y1⟩ := KN.out.c2
        have g1 : ¬ gN = w.heap.size := by omega
        have g2 : ¬ w.heap.size = gN := by omega
        have g3 : ¬ gN = b2 := by omega
        have g4 : ¬ b2 = gN := by omega
        go_wp2_with fail
        refine wp_region_held_drew (S := (fun w' => (w'.cell? ⟨w.heap.size, 1, none⟩ = some (.slice (some ⟨b2, o2, none⟩) ys.length d) ∧ w'.cell? ⟨b2, o2 + k * 5 + 1, none⟩ = some (.int .i64 f.key.space) ∧ w'.cell? ⟨b2, o2 + k * 5 + 2, none⟩ = some (.int .i64 f.key.page) ∧ w'.cell? ⟨b2, o2 + k * 5 + 3, none⟩ = some (.int .i64 f.rights)))) (by kernel_rfl) ?r0_hS0 (fun hHeld => ?_)
        case r0_hS0 => exact FK.out _ (Ex.refl _).drew
        refine tk 1 ?_; refine tk 2 ?_; refine tk 3 ?_; refine tk 4 ?_; refine tk 5 ?_; refine tk 6 ?_; refine tk 7 ?_; refine tk 8 ?_; refine tk 9 ?_; refine tk 10 ?_; refine tk 11 ?_; refine tk 12 ?_; refine tk 13 ?_
        refine wpAnyH_ready (rs := [0]) (by kernel_rfl) (by simp) ?_
        refine AllReadyH.cons (o := ?r0_o0) ?r0_ho0 (fun K hK => ?_) AllReadyH.nil
        case r0_ho0 => (conv => lhs; whnf; arg 1; whnf)
        go_simp
        refine hK.out _ _ ?r0_hS0 (fun hHeld0 => ?_)
        case r0_hS0 => exact FK.out _ (Ex.refl _).drew
        clear hK K hHeld
        try simp only [Act.put, List.setIfInBounds_toArray, List.set_cons_zero, List.set_cons_succ]
        refine wpAnyH_ready (rs := [14]) (by kernel_rfl) (by simp) ?_
        refine AllReadyH.cons (o := ?r0_o14) ?r0_ho14 (fun K hK => ?_) AllReadyH.nil
        case r0_ho14 => (conv => lhs; whnf; arg 1; whnf)
        refine step_call_gu rfl CE.out _ _ rfl #[.agg #[.slice A5 (rl k).buckets.length c5, .slice B5 (rl k).frames.length d5], .agg #[.int .i64 f.key.space, .int .i64 f.key.page], .int .i64 k, .int .i64 f.rights] rfl (CM.out _ (Ex.refl _).drew) ?_; rintro r w5 ⟨A6, c6, B6, d6, rfl, hf5, hf5b, hb5⟩; refine ⟨_, rfl, ?_⟩; have hE5 := Ex.trans (Ex.refl _).drew hb5; obtain ⟨hn5, hx5, hr5⟩ := FN.out _ hE5; obtain ⟨n0, n1⟩ := hn5.c2; have nz := hn5.frozen; have nl := hn5.lt; obtain ⟨m1, m2, m3, m4⟩ := FK.out _ hE5
        refine hK.out _ _ ?r0_hS14 (fun hHeld14 => ?_)
        case r0_hS14 => exact FK.out _ hE5
        clear hK K hHeld0
        try simp only [Act.put, List.setIfInBounds_toArray, List.set_cons_zero, List.set_cons_succ]
        refine wpAnyH_ready (rs := [15]) (by kernel_rfl) (by simp) ?_
        refine AllReadyH.cons (o := ?r0_o15) ?r0_ho15 (fun K hK => ?_) AllReadyH.nil
        case r0_ho15 => (conv => lhs; whnf; arg 1; whnf)
        go_simp
        refine hK.out _ _ ?r0_hS15 (fun hHeld15 => ?_)
        case r0_hS15 => exact by go_keep
        clear hK K hHeld14
        try simp only [Act.put, List.setIfInBounds_toArray, List.set_cons_zero, List.set_cons_succ]
        refine wpAnyH_done (by kernel_rfl) ?_ _
        clear hHeld15
        have hs5 := hE5.size
        have E5 := Lib.hid (Ewr.out.trans hE5)
        have PA := Lib.hid (hf5.off hn5 (by decide))
        have PB := Lib.hid (hf5b.off hn5 (by decide))
        have HF5 : Hid (Fr 3 w5 wr.heap.size A6 c6 (rl (k + 1)).buckets) := Lib.hid hf5
        have HF5B : Hid (Fr 47 w5 wr.heap.size B6 d6 (rl (k + 1)).frames) := Lib.hid hf5b
        have KN5 := Lib.hid hn5
        have KX5 := Lib.hid hx5
        have KR5 := Lib.hid hr5
        clear hf5 hf5b hn5 hx5 hr5 hE5
        go_wp2
        go_roundw
        case rel => exact ⟨k + 1, A6, c6, B6, d6, by go_num, by omega, Blk.put2 KN5.out, Fr.mono (B := wr.heap.size) (by repeat' (first | with_reducible exact HF5.out | with_reducible refine Fr.put ?_ PA.out _)) (by omega), Fr.mono (B := wr.heap.size) (by repeat' (first | with_reducible exact HF5B.out | with_reducible refine Fr.put ?_ PB.out _)) (by omega), (by repeat' (first | with_reducible exact E5.out | with_reducible refine Ex.alloc ?_ _ | with_reducible refine Ex.drew ?_ | with_reducible refine Ex.put ?_ (by omega) _)), by repeat' (first | with_reducible exact KX5.out | with_reducible refine Blk.far ?_ (by simp only; omega) _), by repeat' (first | with_reducible exact KR5.out | with_reducible refine Blk.far ?_ (by simp only; omega) _)⟩
        case measure => simp [intOf]; omega
end Go.Proofs.YtbdlpbladpppjaaDoor
/- Linking a frame into a table, in place: impl's link. -/
namespace Go.Proofs.YtbdlpbladpppjaaDoor
open Go.ChangeShapes Go.WideShapes Go.ChangeAt Go.RowKit
open Rec (sz cs)
set_option linter.unusedVariables false
set_option maxRecDepth 100000

def LinkP (gb gf lo hi : Nat) (t : TableD) (rb rf : List Value) (w : World) (e : Ending) (w' : World) : Prop := e = .returned (.tuple #[]) ∧ Bk 3 w' gb t.buckets rb ∧ Bk 47 w' gf t.frames rf ∧ Chg lo hi w w'

set_option maxHeartbeats 4000000 in
theorem linkI_c (gb gf lo up : Nat) (xs : List Int) (ys : List FrameD) (rb rf : List Value) (c d : Nat) (k : KeyD) (i : Nat) (rt : Int) (w : World) (hbb : Bk 3 w gb xs rb) (hbf : Bk 47 w gf ys rf) (hlb : lo ≤ gb ∧ gb < up) (hlf : lo ≤ gf ∧ gf < up)
    (hm1 : 1 ≤ xs.length) (hm2 : xs.length ≤ 16) (hn2 : ys.length ≤ 16) (hi : i < ys.length) (hk : keyOk k) :
    Calls Tryd.prog 16 #[.agg #[.slice (some ⟨gb, 0, none⟩) xs.length c, .slice (some ⟨gf, 0, none⟩) ys.length d], .agg #[.int .i64 k.space, .int .i64 k.page], .int .i64 i, .int .i64 rt] w (LinkP gb gf lo up (linkT ⟨xs, ys⟩ k i rt) rb rf w) := by
  obtain ⟨hv1, hv2⟩ := hashK_range (n := xs.length) hk (by omega) (by omega)
  obtain ⟨b, eb⟩ : ∃ b : Nat, hashK k xs.length = (b : Int) := ⟨(hashK k xs.length).toNat, by omega⟩
  have hbm : b < xs.length := by omega
  have CH := Lib.hid (fun w => hashI_c k (xs.length : Int) w hk (by omega) (by omega))
  rw [eb] at CH
  have hix := List.getElem?_eq_getElem hi
  have hbx := List.getElem?_eq_getElem hbm
  have HQ : linkT ⟨xs, ys⟩ k i rt = ⟨xs.set b (i : Int), ys.set i ⟨true, k, rt, xs[b]⟩⟩ := by unfold linkT bkOf; rw [eb, Int.toNat_natCast, getD_of hbx]
  rw [HQ]
  unfold LinkP
  dsimp only
  clear HQ
  generalize ys[i] = f at hix
  generalize xs[b] = x at hbx ⊢
  have hne := Bk.ne hbb hbf (by decide)
  have hne' : ¬ gf = gb := fun e => hne e.symm
  have v0 := hbb.int hbx
  obtain ⟨d0, d1', d2', d3, d4⟩ := hbf.frame hix
  have zb := hbb.frozen
  have zf := hbf.frozen
  have lb := Blk.lt hbb
  have lf := Blk.lt hbf
  have HBB := Lib.hid hbb
  have HBF := Lib.hid hbf
  have HIX := Lib.hid hix
  have hi' : (i : Int) < (ys.length : Int) := by omega
  have hb' : (b : Int) < (xs.length : Int) := by omega
  have hi0 : ¬ (i : Int) < 0 := by omega
  have hb0 : ¬ (b : Int) < 0 := by omega
  clear hv1 hv2 eb hk hix hbx hbb hbf
  go_enter Tryd.func16, Tryd.ntmps16
  go_wp2_with fail
  refine name_calls ?_; intro v1 hv1
  have X1 : Hid (Chg (0) (0) w v1) := Lib.hid (by rw [hv1]; repeat' (first | with_reducible exact Chg.refl _ _ _ | with_reducible refine Chg.alloc ?_ _ | with_reducible refine Chg.drew ?_ | with_reducible refine Chg.set ?_ (by omega) _))
  have t1 : w.heap.size ≤ v1.heap.size := X1.out.size
  have Ev1 : Hid (Ex w v1) := Lib.hid ((Ex.refl w).chg X1.out (by omega))
  replace HBB := Lib.hid (HBB.out.chg X1.out (by omega))
  replace HBF := Lib.hid (HBF.out.chg X1.out (by omega))
  have KX : Hid (Blk v1 (w.heap.size) 26 [.slice (some ⟨gb, 0, none⟩) xs.length c, .slice (some ⟨gf, 0, none⟩) ys.length d]) := Lib.hid (by rw [hv1]; repeat' (first | with_reducible exact Blk.new_at _ _ _ (by simp) | with_reducible refine Blk.alloc ?_ _ | with_reducible refine Blk.drew ?_ | with_reducible refine Blk.far ?_ (by simp; omega) _))
  have lX : w.heap.size < v1.heap.size := KX.out.lt
  have KK : Hid (Blk v1 (w.heap.size + 1) 45 [.int .i64 k.space, .int .i64 k.page]) := Lib.hid (by rw [hv1]; repeat' (first | with_reducible exact Blk.new_at _ _ _ (by simp) | with_reducible refine Blk.alloc ?_ _ | with_reducible refine Blk.drew ?_ | with_reducible refine Blk.far ?_ (by simp; omega) _))
  have lK : w.heap.size + 1 < v1.heap.size := KK.out.lt
  clear hv1
  refine (CH.out _).mono ?_; rintro r w1 ⟨rfl, hb1⟩
  have Y1 : Hid (Chg 0 0 v1 w1) := Lib.hid (Chg.of_ex hb1)
  have s1 : v1.heap.size ≤ w1.heap.size := Y1.out.size
  have Ew1 : Hid (Ex w w1) := Lib.hid (Ev1.out.chg Y1.out (by omega))
  clear hb1
  replace KX := Lib.hid (KX.out.chg Y1.out (by omega))
  replace KK := Lib.hid (KK.out.chg Y1.out (by omega))
  replace HBB := Lib.hid (HBB.out.chg Y1.out (by omega))
  replace HBF := Lib.hid (HBF.out.chg Y1.out (by omega))
  obtain ⟨qX0, qX1⟩ := KX.out.c2
  have jX := KX.out.lt
  obtain ⟨qK0, qK1⟩ := KK.out.c2
  have jK := KK.out.lt
  have n1 : ¬ w.heap.size = gf := by omega
  have n2 : ¬ gf = w.heap.size := by omega
  have n3 : ¬ w.heap.size = gb := by omega
  have n4 : ¬ gb = w.heap.size := by omega
  have n5 : ¬ w.heap.size + 1 = gf := by omega
  have n6 : ¬ gf = w.heap.size + 1 := by omega
  have n7 : ¬ w.heap.size + 1 = gb := by omega
  have n8 : ¬ gb = w.heap.size + 1 := by omega
  have lb1 := Blk.lt HBB.out
  have lf1 := Blk.lt HBF.out
  have vv := (Ew1.out.cell lb).trans v0
  have zb1 := HBB.out.frozen
  have zf1 := HBF.out.frozen
  clear v0 d0 d1' d2' d3 d4 zb zf
  obtain ⟨d0, d1', d2', d3, d4⟩ := HBF.out.frame HIX.out
  have FK : Hid (∀ w', Ex w1 w' → (w'.cell? ⟨w.heap.size, 0, none⟩ = some (.slice (some ⟨gb, 0, none⟩) xs.length c) ∧ w'.cell? ⟨w.heap.size, 1, none⟩ = some (.slice (some ⟨gf, 0, none⟩) ys.length d) ∧ w'.cell? ⟨w.heap.size + 1, 0, none⟩ = some (.int .i64 k.space) ∧ w'.cell? ⟨w.heap.size + 1, 1, none⟩ = some (.int .i64 k.page) ∧ w'.cell? ⟨gb, b, none⟩ = some (.int .i64 x))) := Lib.hid (fun w' h => ⟨(KX.out.ex h).c2.1, (KX.out.ex h).c2.2, (KK.out.ex h).c2.1, (KK.out.ex h).c2.2, (h.cell lb1).trans vv⟩)
  go_wp2_with fail
  go_region_held3 (fun w' => (w'.cell? ⟨w.heap.size, 0, none⟩ = some (.slice (some ⟨gb, 0, none⟩) xs.length c) ∧ w'.cell? ⟨w.heap.size, 1, none⟩ = some (.slice (some ⟨gf, 0, none⟩) ys.length d) ∧ w'.cell? ⟨w.heap.size + 1, 0, none⟩ = some (.int .i64 k.space) ∧ w'.cell? ⟨w.heap.size + 1, 1, none⟩ = some (.int .i64 k.page) ∧ w'.cell? ⟨gb, b, none⟩ = some (.int .i64 x))) (first | (refine FK.out _ ?_; with_reducible (first | exact Ex.refl _ | exact (Ex.refl _).drew)) | go_keep) (fail)
  rename_i hHeld
  clear hHeld
  go_wp2
  refine bodyPost_end (v := .tuple #[]) (results_none rfl _ _ _) rfl ⟨rfl, ?_, ?_, (by repeat' (first | with_reducible exact Chg.mono' (Chg.of_ex Ew1.out) _ _ | with_reducible refine Chg.alloc ?_ _ | with_reducible refine Chg.drew ?_ | with_reducible refine Chg.set ?_ (by omega) _))⟩
  · repeat' (first | with_reducible refine Bk.drew ?_ | with_reducible refine Bk.far ?_ hne _ | with_reducible refine Bk.far ?_ hne' _)
    with_reducible refine Bk.set_int ?_ _ hbm
    repeat' (first | with_reducible refine Bk.drew ?_ | with_reducible refine Bk.far ?_ hne _ | with_reducible refine Bk.far ?_ hne' _)
    exact HBB.out
  · repeat' (first | with_reducible refine Bk.drew ?_ | with_reducible refine Bk.far ?_ hne _ | with_reducible refine Bk.far ?_ hne' _)
    with_reducible refine Bk.set_frame ?_ ⟨true, k, rt, x⟩ hi
    repeat' (first | with_reducible refine Bk.drew ?_ | with_reducible refine Bk.far ?_ hne _ | with_reducible refine Bk.far ?_ hne' _)
    exact HBF.out
end Go.Proofs.YtbdlpbladpppjaaDoor
/- How a law's arguments are opened: from the row's reading to plain data in memory. -/
namespace Go.Proofs.YtbdlpbladpppjaaDoor
open Go.ChangeShapes Go.WideShapes Go.ChangeAt Go.RowKit
set_option linter.unusedVariables false

theorem ownRow : ownKnob Tryd.prog.godebug = none := by kernel_rfl
theorem laidOutRow : laidOutB Tryd.prog = true := by kernel_rfl

section
open Go.Deep Go.Joins
open Rec (sz cs)
variable {H : Type} {enc : TypeId × Value → H} {P : Program} {w : World} {base : Nat} {spare : Nat → Bool} {held : Bool}

/-- From facts on each element to a list. -/
theorem rd_build {α : Type} [Rec α] [Inhabited α] (a : Addr) (len : Nat) (h : ∀ i, i < len → ∃ x : α, ∀ j u, (cs x)[j]? = some u → w.cell? (a.add (i * sz α + j)) = some u) :
    ∃ xs : List α, xs.length = len ∧ Rd w (some a) xs := by
  have hch : ∀ i, ∃ x : α, i < len → ∀ j u, (cs x)[j]? = some u → w.cell? (a.add (i * sz α + j)) = some u := fun i => by
    by_cases hi : i < len
    · obtain ⟨x, hx⟩ := h i hi
      exact ⟨x, fun _ => hx⟩
    · exact ⟨default, fun h => absurd h hi⟩
  refine ⟨(List.range len).map fun i => Classical.choose (hch i), by simp, fun hn => ?_⟩
  have hlen : 0 < len := by simpa using hn
  obtain ⟨b, off, spot⟩ := a
  have hp : 0 < sz α := Rec.pos
  have h0 := Classical.choose_spec (hch 0) hlen 0 _ (List.getElem?_eq_getElem (by rw [Rec.len]; exact hp))
  have hspot : spot = none := by simpa [Addr.add] using World.cell?_spot h0
  subst hspot
  have hb := block_lt_of_cell h0
  simp only [Addr.add] at hb
  refine ⟨b, off, rfl, by simpa [Addr.add] using hb, fun m u hu => ?_⟩
  have hm : m < len * sz α := by
    have := (List.getElem?_eq_some_iff.1 hu).1
    rw [flat_length] at this
    simpa using this
  have hd : m / sz α < len := (Nat.div_lt_iff_lt_mul hp).2 hm
  have hmm : m % sz α < sz α := Nat.mod_lt _ hp
  have hi : m / sz α * sz α + m % sz α = m := by rw [Nat.mul_comm]; exact Nat.div_add_mod m (sz α)
  have hg := flat_get ((List.range len).map fun i => Classical.choose (hch i)) (m / sz α) (m % sz α) (Classical.choose (hch (m / sz α))) (by simp [hd]) hmm
  rw [hi, hu] at hg
  have := Classical.choose_spec (hch (m / sz α)) hd (m % sz α) u hg.symm
  rw [hi] at this
  rw [← this]
  congr 1
  unfold Addr.add
  split <;> simp_all

end

/-! ### Facts on the whole program that each row asks. The program's head is long: its letters are laid as numbers, so that the kernel need not decode it. -/
def headNums : List Nat := [104, 97, 114, 110, 101, 115, 115, 32, 100, 49, 99, 99, 98, 48, 51, 102, 56, 50, 99, 54, 99, 48, 49, 54, 56, 100, 50, 51, 98, 54, 56, 97, 100, 53, 97, 56, 102, 102, 99, 57, 101, 53, 55, 99, 54, 48, 54, 51, 51, 51, 102, 102, 56, 54, 97, 49, 48, 97, 51, 56, 57, 51, 101, 57, 55, 48, 56, 52, 51, 54, 98, 97, 32, 99, 117, 116, 32, 97, 116, 32, 108, 111, 111, 112, 46, 101, 120, 97, 109, 112, 108, 101, 47, 105, 110, 118, 101, 114, 116, 101, 100, 112, 97, 103, 101, 115, 47, 108, 97, 119, 115, 46, 70, 110, 82, 101, 104, 97, 115, 104, 79, 110, 101]
def headRest : List (List Nat) := [[97, 116], [108, 111, 111, 112, 46, 101, 120, 97, 109, 112, 108, 101, 47, 105, 110, 118, 101, 114, 116, 101, 100, 112, 97, 103, 101, 115, 47, 108, 97, 119, 115, 46, 70, 110, 82, 101, 104, 97, 115, 104, 79, 110, 101]]
set_option maxRecDepth 100000 in
theorem headO : Tryd.prog.initOrder = String.ofList (headNums.map Char.ofNat) := by kernel_rfl
theorem headL : Tryd.prog.initOrder.toList = headNums.map Char.ofNat := by rw [headO, String.toList_ofList]
set_option maxRecDepth 100000 in
theorem headW : behindMainWord (wordsSigns (headNums.map Char.ofNat)) = "cut".toList :: headRest.map (List.map Char.ofNat) := by kernel_rfl
theorem headCut : behindMainWord (wordsSigns Tryd.prog.initOrder.toList) = "cut".toList :: headRest.map (List.map Char.ofNat) := by
  rw [headL, headW]
theorem strip_cut (rest : List (List Char)) : stripLifts liftWords ("cut".toList :: rest) = ([], "cut".toList :: rest) := by
  simp [liftWords, stripLifts]
theorem make_of_cut {P : Program} {rest : List (List Char)} (h : behindMainWord (wordsSigns P.initOrder.toList) = "cut".toList :: rest) : P.make = some .cut := by
  unfold Program.make
  rw [h]
  simp
theorem final_of_cut {P : Program} {rest : List (List Char)} (h : behindMainWord (wordsSigns P.initOrder.toList) = "cut".toList :: rest) : P.liftsFinal = false := by
  unfold Program.liftsFinal Program.headLifts
  rw [h, strip_cut]
  simp
theorem enter_of_cut {P : Program} {rest : List (List Char)} (h : behindMainWord (wordsSigns P.initOrder.toList) = "cut".toList :: rest) (h1 : P.laysLater = false) (h2 : P.bearsReflect = false) (h3 : P.doorFits [] = true) : P.mayEnter = true := by
  unfold Program.mayEnter
  rw [h]
  simp only [strip_cut, h1, h2, h3]
  simp
theorem progFinal : Tryd.prog.liftsFinal = false := final_of_cut headCut
theorem progMake : Tryd.prog.make = some .cut := make_of_cut headCut
theorem progLater : Tryd.prog.laysLater = false := by kernel_rfl
theorem progReflect : Tryd.prog.bearsReflect = false := by kernel_rfl
theorem progDoor : Tryd.prog.doorFits [] = true := by kernel_rfl
theorem progEnter : Tryd.prog.mayEnter = true := enter_of_cut headCut progLater progReflect progDoor
theorem progMaps : mapsRowed Tryd.prog = true := by kernel_rfl
theorem progHeard : Tryd.prog.stopsHeard = true := by kernel_rfl
end Go.Proofs.YtbdlpbladpppjaaDoor
/- A set of keys kept in a map of the call's own. -/
namespace Go.Proofs.YtbdlpbladpppjaaDoor
open Go.ChangeShapes Go.WideShapes Go.ChangeAt Go.RowKit
open Rec (sz cs)
set_option linter.unusedVariables false
set_option maxRecDepth 100000
open Go.Maps (Keyed)

theorem rowKey : (45 : TypeId) < Tryd.prog.types.size := of_decide_eq_true (by kernel_rfl)
theorem wideKey : (match Tryd.prog.underlying 45 with | some (.array _ _) | some (.struct _) => true | _ => false) = true := by rw [Tryd.underlying45]
theorem kKey : Keyed Tryd.prog 45 := Keyed.of_law (deep_law_laid laidOutRow (m := 2) (by omega) rowKey (by kernel_rfl) wideKey)
theorem cellsKey : Tryd.prog.cellsOf 45 = 2 := by kernel_rfl
theorem cellsInt : Tryd.prog.cellsOf 3 = 1 := by kernel_rfl
theorem typesKey : Tryd.prog.types.size + 1 = (Tryd.prog.types.size - 1) + 1 + 1 := by kernel_rfl
theorem keyTypeKey : Tryd.prog.keyType 45 = true := by kernel_rfl
theorem litsInt (d : Nat) (a : Int) (h : (Lit.int .i64 a).wf = true) : Tryd.prog.keyLits (d + 1) 3 [.int .i64 a] = some [.int .i64 a] := by
  unfold Program.keyLits
  rw [Tryd.underlying3]
  simp [h]
theorem litsKey (d : Nat) (a b : Int) (h1 : (Lit.int .i64 a).wf = true) (h2 : (Lit.int .i64 b).wf = true) : Tryd.prog.keyLits (d + 1 + 1) 45 [.int .i64 a, .int .i64 b] = some [.int .i64 a, .int .i64 b] := by
  unfold Program.keyLits
  rw [Tryd.underlying45]
  simp [cellsKey, cellsInt, litsInt d a h1, litsInt d b h2]
theorem keyOf_key (x : KeyD) (h1 : (Lit.int .i64 x.space).wf = true) (h2 : (Lit.int .i64 x.page).wf = true) : ∃ l, keyOf Tryd.prog 45 (.agg #[.int .i64 x.space, .int .i64 x.page]) = some l := by
  unfold keyOf
  rw [Tryd.underlying45]
  have hl := litsKey (Tryd.prog.types.size - 1) x.space x.page h1 h2
  rw [← typesKey] at hl
  have hf : (Value.agg #[.int .i64 x.space, .int .i64 x.page]).formed Tryd.prog 45 = true := by simp [Value.formed, Tryd.underlying45, cellsKey]
  refine ⟨.string (keyBytes [.int .i64 x.space, .int .i64 x.page]), ?_⟩
  show (if (Tryd.prog.keyType 45 && (Value.agg #[.int .i64 x.space, .int .i64 x.page]).formed Tryd.prog 45) = true then (Tryd.prog.keyLits (Tryd.prog.types.size + 1) 45 [.int .i64 x.space, .int .i64 x.page]).map (fun ls => Lit.string (keyBytes ls)) else none) = _
  rw [hl, hf, keyTypeKey]
  rfl

/-- A map of the call's own that holds true just at the keys of S (no key twice in S). -/
def HasKeys (w : World) (b n : Nat) (S : List KeyD) : Prop := ∃ D : DataW Unit, w.ownsMap Tryd.prog 45 (plainElem Tryd.prog 4) b n D ∧ Maps.IsMap D ∧ Maps.size D = S.length ∧ ∀ (x : KeyD) (l : Lit), keyOf Tryd.prog 45 (.agg #[.int .i64 x.space, .int .i64 x.page]) = some l → D.atKey l (.lit (.bool false)) = .lit (.bool (decide (x ∈ S))) ∧ Maps.has D l = decide (x ∈ S)
theorem HasKeys.made (w : World) : HasKeys (w.alloc (.map #[] 0)) w.heap.size 0 [] :=
  ⟨_, World.ownsMap_made w _ _ _, Maps.isMap_empty, rfl, fun x l h => by simp [DataW.atKey, Maps.has]⟩
theorem HasKeys.kept {w w' : World} {b n : Nat} {S : List KeyD} {row : Option Nat} (h : HasKeys w b n S) (hg : w.grownBy w' row) (hne : some b ≠ row) : HasKeys w' b n S := by
  obtain ⟨D, h1, h2⟩ := h
  exact ⟨D, h1.kept hg hne, h2⟩
theorem HasKeys.ex {w w' : World} {b n : Nat} {S : List KeyD} (h : HasKeys w b n S) (k : Ex w w') : HasKeys w' b n S :=
  h.kept (grown_ex (grown_refl w none) k) (by simp)
theorem HasKeys.lt {w : World} {b n : Nat} {S : List KeyD} (h : HasKeys w b n S) : b < w.heap.size := by
  obtain ⟨D, h1, _⟩ := h
  exact h1.lt
theorem HasKeys.look {w : World} {b n : Nat} {S : List KeyD} (h : HasKeys w b n S) (x : KeyD) {l : Lit} (hx : keyOf Tryd.prog 45 (.agg #[.int .i64 x.space, .int .i64 x.page]) = some l) :
    (Instr.lookup 66 (.map (some b)) (.agg #[.int .i64 x.space, .int .i64 x.page]) false).run Tryd.prog w = .ok (.bool (decide (x ∈ S))) w := by
  obtain ⟨D, h1, _, _, h2⟩ := h
  obtain ⟨v, ps, hrun, hv⟩ := h1.lookup kKey Tryd.underlying66 (z := .bool false) (by kernel_rfl) (plainElem_bool Tryd.underlying4 false) hx
  rw [(h2 x l hx).1] at hv
  rw [hrun]
  unfold plainElem at hv
  rw [Tryd.underlying4] at hv
  cases v <;> simp at hv
  rw [hv.1]
theorem HasKeys.put {w : World} {b n : Nat} {S : List KeyD} (h : HasKeys w b n S) (hn : n < maxLen) (x : KeyD) (hns : ¬ x ∈ S) {l : Lit} (hx : keyOf Tryd.prog 45 (.agg #[.int .i64 x.space, .int .i64 x.page]) = some l) :
    ∃ w', (Instr.mapUpdate 66 (.map (some b)) (.agg #[.int .i64 x.space, .int .i64 x.page]) (.bool true)).run Tryd.prog w = .ok () w' ∧ HasKeys w' b (n + 1) (x :: S) ∧ w.grownBy w' (some b) := by
  obtain ⟨D, h1, hm, hz, h2⟩ := h
  obtain ⟨w', hrun, h3, h4⟩ := h1.update kKey Tryd.underlying66 hn hx (plainElem_bool Tryd.underlying4 true)
  refine ⟨w', hrun, ⟨_, h3, hm.put _ _, ?_, fun y l' hy => ?_⟩, h4⟩
  · rw [Maps.size_put (h1.tidy kKey), (h2 x l hx).2, hz]
    simp [hns]
  · by_cases e : y = x
    · subst e
      have e2 : l' = l := by rw [hx] at hy; injection hy with hy; exact hy.symm
      subst e2
      rw [Maps.atKey_put_same hm (kKey.key hx), Maps.has_put_same hm (kKey.key hx)]
      simp
    · have hl : l' ≠ l := by
        intro hl
        subst hl
        have := kKey.inj hx hy
        apply e
        obtain ⟨a1, a2⟩ := x
        obtain ⟨b1, b2⟩ := y
        simp at this
        rw [this.1, this.2]
      rw [Maps.atKey_put_other hl, Maps.has_put_other hl, (h2 y l' hy).1, (h2 y l' hy).2]
      simp [e]
end Go.Proofs.YtbdlpbladpppjaaDoor
/- TagsValid: the walks of the program's and the reference's. -/
namespace Go.Proofs.YtbdlpbladpppjaaDoor
open Go.ChangeShapes Go.WideShapes Go.ChangeAt Go.RowKit
open Rec (sz cs)
set_option linter.unusedVariables false
set_option maxRecDepth 100000

end Go.Proofs.YtbdlpbladpppjaaDoor
/- TableValid of the program. -/
namespace Go.Proofs.YtbdlpbladpppjaaDoor
open Go.ChangeShapes Go.WideShapes Go.ChangeAt Go.RowKit
open Rec (sz cs)
set_option linter.unusedVariables false
set_option maxRecDepth 100000

theorem wpList_put_key (w : World) {ops : Array Oper} {rest : List Oper} {o : Oper} {a : Act} {Q : Exit → Act → World → Prop}
    (hg : o.guard = none) (m x v : Operand) (hop : o.op = Op.mapUpdate 66 m x v) (b n : Nat) (S : List KeyD) (hm : a.eval m = .map (some b)) (h : HasKeys w b n S) (hn : n < maxLen) (k : KeyD) (hns : ¬ k ∈ S) (hx : a.eval x = .agg #[.int .i64 k.space, .int .i64 k.page]) (hv : a.eval v = .bool true)
    {l : Lit} (hk : keyOf Tryd.prog 45 (.agg #[.int .i64 k.space, .int .i64 k.page]) = some l) (hK : ∀ w', HasKeys w' b (n + 1) (k :: S) → w.grownBy w' (some b) → wpList Tryd.prog ops Q rest (a.put o.dst undef) w') : wpList Tryd.prog ops Q (o :: rest) a w := by
  refine wpList_plain hg fun K' hK' => ?_
  obtain ⟨w', hrun, r1, r2⟩ := h.put hn k hns hk
  unfold Oper.wp
  simp [execOp, hop, hm, hx, hv, hrun, Result.andThen]
  exact hK' _ _ (hK w' r1 r2)

/-- The keys of the used ones among the first k frames. -/
def KeysUp (fs : List FrameD) (k : Nat) (S : List KeyD) : Prop := ∀ x, x ∈ S ↔ ∃ (j : Nat) (g : FrameD), j < k ∧ fs[j]? = some g ∧ g.used = true ∧ g.key = x
theorem keysUp_zero (fs : List FrameD) : KeysUp fs 0 [] := fun x => ⟨(fun h => by cases h), (fun ⟨j, g, h, _⟩ => by omega)⟩
theorem keysUp_no {fs : List FrameD} {k : Nat} {S : List KeyD} {f : FrameD} (h : KeysUp fs k S) (hf : fs[k]? = some f) (hu : f.used = false) : KeysUp fs (k + 1) S := by
  intro x
  rw [h x]
  constructor
  · rintro ⟨j, g, h1, h2⟩
    exact ⟨j, g, by omega, h2⟩
  · rintro ⟨j, g, h1, h2, h3, h4⟩
    by_cases e : j = k
    · subst e
      rw [hf] at h2
      injection h2 with h2
      rw [← h2, hu] at h3
      cases h3
    · exact ⟨j, g, by omega, h2, h3, h4⟩
theorem keysUp_yes {fs : List FrameD} {k : Nat} {S : List KeyD} {f : FrameD} (h : KeysUp fs k S) (hf : fs[k]? = some f) (hu : f.used = true) : KeysUp fs (k + 1) (f.key :: S) := by
  intro x
  rw [List.mem_cons, h x]
  constructor
  · rintro (rfl | ⟨j, g, h1, h2⟩)
    · exact ⟨k, f, by omega, hf, hu, rfl⟩
    · exact ⟨j, g, by omega, h2⟩
  · rintro ⟨j, g, h1, h2, h3, h4⟩
    by_cases e : j = k
    · subst e
      rw [hf] at h2
      injection h2 with h2
      exact .inl (by rw [← h4, ← h2])
    · exact .inr ⟨j, g, by omega, h2, h3, h4⟩
/-- What the program asks of a used frame. -/
theorem key_again {fs : List FrameD} {k : Nat} {S : List KeyD} {f : FrameD} (h : KeysUp fs k S) (hm : f.key ∈ S) (hu : f.used = true) : ¬ ∀ j g, j < k → fs[j]? = some g → f.used = true → g.used = true → g.key ≠ f.key := fun hn => by
  obtain ⟨j, g, h1, h2, h3, h4⟩ := (h f.key).1 hm
  exact hn j g h1 h2 hu h3 h4
theorem key_fresh {fs : List FrameD} {k : Nat} {S : List KeyD} {f : FrameD} (h : KeysUp fs k S) (hm : ¬ f.key ∈ S) : ∀ j g, j < k → fs[j]? = some g → f.used = true → g.used = true → g.key ≠ f.key :=
  fun j g h1 h2 _ h3 h4 => hm ((h f.key).2 ⟨j, g, h1, h2, h3, h4⟩)
end Go.Proofs.YtbdlpbladpppjaaDoor
/- A set of numbers in a map of the call's own, counted; the lengths of such maps. -/
namespace Go.Proofs.YtbdlpbladpppjaaDoor
open Go.ChangeShapes Go.WideShapes Go.ChangeAt Go.RowKit
open Rec (sz cs)
set_option linter.unusedVariables false
set_option maxRecDepth 100000

/-- How many entries a map's block has. -/
def mapN (w : World) (b : Nat) : Nat := match w.heap[b]? with | some (.map es _) => es.size | _ => 0
theorem mapN_own {P : Program} {k : TypeId} {R : Value → Option (DataW Unit × List MemPlace)} {w : World} {b n : Nat} {D : DataW Unit} (h : w.ownsMap P k R b n D) : mapN w b = Maps.size D := by
  obtain ⟨es, clock, hb, F, hs, hD⟩ := h
  unfold mapN
  rw [hb, hD]
  simp [Maps.size, length_sorted]

/-- A map of the call's own that holds true just at the numbers of S (no number twice in S). -/
def IntSet (w : World) (b n : Nat) (S : List Int) : Prop := ∃ D : DataW Unit, w.ownsMap Tryd.prog 3 (plainElem Tryd.prog 4) b n D ∧ Maps.IsMap D ∧ Maps.size D = S.length ∧ ∀ x : Int, D.atKey (.int .i64 x) (.lit (.bool false)) = .lit (.bool (decide (x ∈ S))) ∧ Maps.has D (.int .i64 x) = decide (x ∈ S)
theorem IntSet.made (w : World) : IntSet (w.alloc (.map #[] 0)) w.heap.size 0 [] :=
  ⟨_, World.ownsMap_made w _ _ _, Maps.isMap_empty, rfl, fun x => by simp [DataW.atKey, Maps.has]⟩
theorem IntSet.kept {w w' : World} {b n : Nat} {S : List Int} {row : Option Nat} (h : IntSet w b n S) (hg : w.grownBy w' row) (hne : some b ≠ row) : IntSet w' b n S := by
  obtain ⟨D, h1, h2⟩ := h
  exact ⟨D, h1.kept hg hne, h2⟩
theorem IntSet.ex {w w' : World} {b n : Nat} {S : List Int} (h : IntSet w b n S) (k : Ex w w') : IntSet w' b n S :=
  h.kept (grown_ex (grown_refl w none) k) (by simp)
theorem IntSet.lt {w : World} {b n : Nat} {S : List Int} (h : IntSet w b n S) : b < w.heap.size := by
  obtain ⟨D, h1, _⟩ := h
  exact h1.lt
theorem IntSet.num {w : World} {b n : Nat} {S : List Int} (h : IntSet w b n S) : mapN w b = S.length := by
  obtain ⟨D, h1, _, hz, _⟩ := h
  rw [mapN_own h1, hz]
theorem IntSet.look {w : World} {b n : Nat} {S : List Int} (h : IntSet w b n S) (x : Int) (hx : (Lit.int .i64 x).wf = true) :
    (Instr.lookup 68 (.map (some b)) (.int .i64 x) false).run Tryd.prog w = .ok (.bool (decide (x ∈ S))) w := by
  obtain ⟨D, h1, _, _, h2⟩ := h
  obtain ⟨v, ps, hrun, hv⟩ := h1.lookup kInt Tryd.underlying68 (z := .bool false) (by kernel_rfl) (plainElem_bool Tryd.underlying4 false) (Maps.keyOf_int_mk Tryd.underlying3 hx)
  rw [(h2 x).1] at hv
  rw [hrun]
  unfold plainElem at hv
  rw [Tryd.underlying4] at hv
  cases v <;> simp at hv
  rw [hv.1]
theorem IntSet.put {w : World} {b n : Nat} {S : List Int} (h : IntSet w b n S) (hn : n < maxLen) (x : Int) (hns : ¬ x ∈ S) (hx : (Lit.int .i64 x).wf = true) :
    ∃ w', (Instr.mapUpdate 68 (.map (some b)) (.int .i64 x) (.bool true)).run Tryd.prog w = .ok () w' ∧ IntSet w' b (n + 1) (x :: S) ∧ w.grownBy w' (some b) := by
  obtain ⟨D, h1, hm, hz, h2⟩ := h
  obtain ⟨w', hrun, h3, h4⟩ := h1.update kInt Tryd.underlying68 hn (Maps.keyOf_int_mk Tryd.underlying3 hx) (plainElem_bool Tryd.underlying4 true)
  have hkl : WideAt.IsKeyLit (.int .i64 x) := by first | trivial | (simp [WideAt.IsKeyLit]) | exact True.intro
  refine ⟨w', hrun, ⟨_, h3, hm.put _ _, ?_, fun y => ?_⟩, h4⟩
  · rw [Maps.size_put (h1.tidy kInt), (h2 x).2, hz]
    simp [hns]
  · by_cases e : y = x
    · subst e
      rw [Maps.atKey_put_same hm hkl, Maps.has_put_same hm hkl]
      simp
    · have hl : (Lit.int .i64 y) ≠ .int .i64 x := by intro h; injection h with _ h; exact e h
      rw [Maps.atKey_put_other hl, Maps.has_put_other hl, (h2 y).1, (h2 y).2]
      simp [e]

theorem wpList_put_set (w : World) {ops : Array Oper} {rest : List Oper} {o : Oper} {a : Act} {Q : Exit → Act → World → Prop}
    (hg : o.guard = none) (m x v : Operand) (hop : o.op = Op.mapUpdate 68 m x v) (b n : Nat) (S : List Int) (hm : a.eval m = .map (some b)) (h : IntSet w b n S) (hn : n < maxLen) (k : Int) (hns : ¬ k ∈ S) (hx : a.eval x = .int .i64 k) (hv : a.eval v = .bool true)
    (hk : (Lit.int .i64 k).wf = true) (hK : ∀ w', IntSet w' b (n + 1) (k :: S) → w.grownBy w' (some b) → wpList Tryd.prog ops Q rest (a.put o.dst undef) w') : wpList Tryd.prog ops Q (o :: rest) a w := by
  refine wpList_plain hg fun K' hK' => ?_
  obtain ⟨w', hrun, r1, r2⟩ := h.put hn k hns hk
  unfold Oper.wp
  simp [execOp, hop, hm, hx, hv, hrun, Result.andThen]
  exact hK' _ _ (hK w' r1 r2)
theorem wpList_len_set {w : World} {ops : Array Oper} {rest : List Oper} {o : Oper} {a : Act} {Q : Exit → Act → World → Prop} (hg : o.guard = none) (m : Operand) (hop : o.op = Op.call { callee := Callee.builtin Builtin.len, args := #[m], argTypes := #[68] })
    (b n : Nat) (S : List Int) (hm : a.eval m = .map (some b)) (h : IntSet w b n S) (hK : wpList Tryd.prog ops Q rest (a.put o.dst (.int .i64 S.length)) w) : wpList Tryd.prog ops Q (o :: rest) a w := by
  obtain ⟨D, h1, _, hz, _⟩ := h
  exact wpList_len_own _ hg m _ hop _ _ Tryd.underlying68 _ b n D hm h1 (by rw [hz]; exact hK)
theorem wpList_len_keys {w : World} {ops : Array Oper} {rest : List Oper} {o : Oper} {a : Act} {Q : Exit → Act → World → Prop} (hg : o.guard = none) (m : Operand) (hop : o.op = Op.call { callee := Callee.builtin Builtin.len, args := #[m], argTypes := #[66] })
    (b n : Nat) (S : List KeyD) (hm : a.eval m = .map (some b)) (h : HasKeys w b n S) (hK : wpList Tryd.prog ops Q rest (a.put o.dst (.int .i64 S.length)) w) : wpList Tryd.prog ops Q (o :: rest) a w := by
  obtain ⟨D, h1, _, hz, _⟩ := h
  exact wpList_len_own _ hg m _ hop _ _ Tryd.underlying66 _ b n D hm h1 (by rw [hz]; exact hK)

/-- The numbers that the walk has met: those of the buckets before, and of this one so far. -/
def MetUp (n : Nat) (ls : List (List Nat)) (pre : List Nat) (S : List Int) : Prop := S.Nodup ∧ (∀ x ∈ S, 0 ≤ x ∧ x < (n : Int)) ∧ S.length = sumL ls + pre.length ∧ ∀ x ∈ S, (∃ i ∈ pre, x = (i : Int)) ∨ ∃ l ∈ ls, ∃ i ∈ l, x = (i : Int)
theorem MetUp.zero (n : Nat) : MetUp n [] [] [] := ⟨List.nodup_nil, (by intro x h; cases h), rfl, (by intro x h; cases h)⟩
theorem MetUp.step {n : Nat} {ls : List (List Nat)} {pre : List Nat} {S : List Int} (h : MetUp n ls pre S) {i : Nat} (hi : i < n) (hs : ¬ (i : Int) ∈ S) : MetUp n ls (pre ++ [i]) ((i : Int) :: S) := by
  obtain ⟨h1, h2, h3, h4⟩ := h
  refine ⟨List.nodup_cons.2 ⟨hs, h1⟩, fun x hx => ?_, by simp; omega, fun x hx => ?_⟩
  · rcases List.mem_cons.1 hx with rfl | hx
    · omega
    · exact h2 x hx
  · rcases List.mem_cons.1 hx with rfl | hx
    · exact .inl ⟨i, by simp, rfl⟩
    · rcases h4 x hx with ⟨j, hj, e⟩ | h5
      · exact .inl ⟨j, by simp [hj], e⟩
      · exact .inr h5
theorem MetUp.next {n : Nat} {ls : List (List Nat)} {pre : List Nat} {S : List Int} (h : MetUp n ls pre S) : MetUp n (ls ++ [pre]) [] S := by
  obtain ⟨h1, h2, h3, h4⟩ := h
  refine ⟨h1, h2, by rw [sumL_succ]; simpa using h3, fun x hx => ?_⟩
  rcases h4 x hx with h5 | ⟨l, hl, h5⟩
  · exact .inr ⟨pre, by simp, h5⟩
  · exact .inr ⟨l, by simp [hl], h5⟩
theorem few_ints : ∀ (n : Nat) (S : List Int), S.Nodup → (∀ x ∈ S, 0 ≤ x ∧ x < (n : Int)) → S.length ≤ n := by
  intro n S h1 h2
  have h3 : (S.map Int.toNat).Nodup := by
    refine List.pairwise_map.2 (List.Pairwise.imp_of_mem ?_ h1)
    intro a b ha hb hne e
    have := h2 a ha
    have := h2 b hb
    omega
  have h4 := nodup_few n (S.map Int.toNat) h3 (fun j hj => by
    obtain ⟨x, hx, rfl⟩ := List.mem_map.1 hj
    have := h2 x hx
    omega)
  simpa using h4
theorem MetUp.few {n : Nat} {ls : List (List Nat)} {pre : List Nat} {S : List Int} (h : MetUp n ls pre S) : S.length ≤ n := few_ints n S h.1 h.2.1
/-- The walk has come to a number that it met before. -/
theorem met_again {t : TableD} {b i n : Nat} {a : Int} {ls : List (List Nat)} {pre : List Nat} {S : List Int} {f : FrameD} (h : MetUp n ls pre S) (hb : Buckets t b ls) (hbb : b < t.buckets.length) (ha : t.buckets[b]? = some a) (hp : Trail t.frames a pre (i : Int)) (hf : t.frames[i]? = some f) (hs : (i : Int) ∈ S) : ¬ TableOk t := by
  rcases h.2.2.2 _ hs with ⟨j, hj, e⟩ | ⟨l, hl, j, hj, e⟩
  · have e2 : i = j := by omega
    subst e2
    exact not_nochain ha (hp.again hj)
  · have e2 : i = j := by omega
    subst e2
    obtain ⟨b', hb', e3⟩ := List.getElem_of_mem hl
    have hb2 : b' < b := by rw [← hb.1]; exact hb'
    obtain ⟨a', ha'⟩ : ∃ a', t.buckets[b']? = some a' := ⟨_, List.getElem?_eq_getElem (by omega)⟩
    have h5 := (hb.2 b' a' l hb2 ha' (by rw [List.getElem?_eq_getElem hb', e3])).2 i f hj hf
    exact not_hash_at ha hp hf (by rw [h5]; omega)
/-- A whole chain was walked. -/
theorem Trail.done {t : TableD} {b : Nat} {a : Int} {ls : List (List Nat)} {pre : List Nat} (hb : Buckets t b ls) (ha : t.buckets[b]? = some a) (hp : Trail t.frames a pre (-1)) (hh : ∀ (i : Nat) (f : FrameD), i ∈ pre → t.frames[i]? = some f → hashK f.key t.buckets.length = b) : Buckets t (b + 1) (ls ++ [pre]) := hb.succ ha hp.ends hh
end Go.Proofs.YtbdlpbladpppjaaDoor
