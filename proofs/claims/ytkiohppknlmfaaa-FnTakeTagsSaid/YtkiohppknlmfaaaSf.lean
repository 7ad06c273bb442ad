/- Drawn tags: the arguments of the laws. -/
import Derived.Test.YtkiohppknlmfaaaSe
namespace Go.Proofs.Ytkiohppknlmfaaa
open Go.ChangeShapes Go.WideShapes Go.ChangeAt Go.RowKit
open Rec (sz cs)
set_option linter.unusedVariables false
set_option maxRecDepth 100000

def SomeTag (w : World) (e : Ending) (w' : World) : Prop := ∃ (t : TagsD) (n : Int) (A : Option Addr) (c : Nat), e = .returned (.tuple #[.agg #[.int .i64 t.count, .int .i64 t.next, .int .i64 t.round, .slice A t.owns.length c], .int .i64 n]) ∧ t.owns.length ≤ 20 ∧ Fr 49 w' w.heap.size A c t.owns ∧ Ex w w'
def SomeTags (w : World) (e : Ending) (w' : World) : Prop := ∃ (t : TagsD) (A : Option Addr) (c : Nat), e = .returned (.agg #[.int .i64 t.count, .int .i64 t.next, .int .i64 t.round, .slice A t.owns.length c]) ∧ t.owns.length ≤ 20 ∧ Fr 49 w' w.heap.size A c t.owns ∧ Ex w w'
def SomeTake (w : World) (e : Ending) (w' : World) : Prop := ∃ (t : TagsD) (zs : List Int) (A Z : Option Addr) (c d : Nat), e = .returned (.tuple #[.agg #[.int .i64 t.count, .int .i64 t.next, .int .i64 t.round, .slice A t.owns.length c], .slice Z zs.length d]) ∧ t.owns.length ≤ 20 ∧ zs.length ≤ 20 ∧ Fr 49 w' w.heap.size A c t.owns ∧ Fr 3 w' w.heap.size Z d zs ∧ Ex w w'

set_option maxHeartbeats 4000000 in
theorem l5Case_c (A : Option Addr) (c : Nat) (bs : List ByteD) (w : World) (hx : Rd w A bs) (hb : Bytes bs) (hn : bs.length ≤ 1048576) (hc : bs.length ≤ c) (hcm : c ≤ maxLen) :
    Calls Try.prog 67 #[.slice A bs.length c] w (SomeTag w) := by
  have C0 := Lib.hid (fun w' (h : Ex w w') => l12Open_c A c bs w' (hx.ex h) hb hn hc hcm)
  generalize bs.length = n at C0 hn hc
  clear hx hb hn hc hcm
  go_enter Try.func67, Try.ntmps67
  go_wp2_with fail
  refine name_calls ?_; intro v1 hv1
  have X1 : Hid (Chg (0) (0) w v1) := Lib.hid (by rw [hv1]; repeat' (first | with_reducible exact Chg.refl _ _ _ | with_reducible refine Chg.alloc ?_ _ | with_reducible refine Chg.drew ?_ | with_reducible refine Chg.set ?_ (by omega) _))
  have t1 : w.heap.size ≤ v1.heap.size := X1.out.size
  have Ev1 : Hid (Ex w v1) := Lib.hid ((Ex.refl w).chg X1.out (by omega))
  have KR : Hid (Blk v1 (w.heap.size) 30 [.int .i64 0, .int .i64 0, .int .i64 0, .slice none 0 0]) := Lib.hid (by rw [hv1]; repeat' (first | with_reducible exact Blk.new_at _ _ _ (by simp) | with_reducible refine Blk.alloc ?_ _ | with_reducible refine Blk.drew ?_ | with_reducible refine Blk.far ?_ (by simp; omega) _))
  have lR : w.heap.size < v1.heap.size := KR.out.lt
  clear hv1
  refine (C0.out _ Ev1.out).mono ?_; rintro r w1 ⟨g, rfl, hrd1, hg1, hb1⟩
  have Y1 : Hid (Chg 0 0 v1 w1) := Lib.hid (Chg.of_ex hb1)
  have s1 : v1.heap.size ≤ w1.heap.size := Y1.out.size
  have Ew1 : Hid (Ex w w1) := Lib.hid (Ev1.out.chg Y1.out (by omega))
  clear hb1
  replace KR : Hid (Blk w1 (w.heap.size) 30 [.int .i64 0, .int .i64 0, .int .i64 0, .slice none 0 0]) := Lib.hid (KR.out.chg Y1.out (by omega))
  have HRD1 := Lib.hid hrd1; clear hrd1
  obtain ⟨qR0, qR1, qR2, qR3⟩ := KR.out.c4
  have jR := KR.out.lt
  have zR := KR.out.frozen
  have lg : g < w1.heap.size := HRD1.out.lt
  go_wp2_with fail
  refine name_calls ?_; intro v2 hv2
  have X2 : Hid (Chg (0) (0) w1 v2) := Lib.hid (by rw [hv2]; repeat' (first | with_reducible exact Chg.refl _ _ _ | with_reducible refine Chg.alloc ?_ _ | with_reducible refine Chg.drew ?_ | with_reducible refine Chg.set ?_ (by omega) _))
  have t2 : w1.heap.size ≤ v2.heap.size := X2.out.size
  have Ev2 : Hid (Ex w v2) := Lib.hid (Ew1.out.chg X2.out (by omega))
  clear qR0 qR1 qR2 qR3 jR zR
  replace KR : Hid (Blk v2 (w.heap.size) 30 [.int .i64 0, .int .i64 0, .int .i64 0, .slice none 0 0]) := Lib.hid (KR.out.chg X2.out (by omega))
  replace HRD1 := Lib.hid (HRD1.out.chg X2.out (by omega))
  clear hv2
  refine (l5Draw_c g 0 _ HRD1.out (by omega)).mono ?_; rintro r w2 ⟨t, A2, c2, p2, rfl, hl2, hf2, hrd2, hp2, hb2⟩
  have Y2 : Hid (Chg (g) (g + 1) v2 w2) := Lib.hid (Chg.of_grown hb2 (fun b hb => by injection hb with hb; omega))
  have s2 : v2.heap.size ≤ w2.heap.size := Y2.out.size
  have Ew2 : Hid (Ex w w2) := Lib.hid (Ev2.out.chg Y2.out (by omega))
  clear hb2
  replace KR : Hid (Blk w2 (w.heap.size) 30 [.int .i64 0, .int .i64 0, .int .i64 0, .slice none 0 0]) := Lib.hid (KR.out.chg Y2.out (by omega))
  clear HRD1
  have HF2 := Lib.hid hf2; clear hf2
  have WHF2 := Lib.hid HF2.out.row
  have HRD2 := Lib.hid hrd2; clear hrd2
  obtain ⟨qR0, qR1, qR2, qR3⟩ := KR.out.c4
  have jR := KR.out.lt
  have zR := KR.out.frozen
  go_wp2_with fail
  refine name_calls ?_; intro v3 hv3
  have X3 : Hid (Chg (0) (0) w2 v3) := Lib.hid (by rw [hv3]; repeat' (first | with_reducible exact Chg.refl _ _ _ | with_reducible refine Chg.alloc ?_ _ | with_reducible refine Chg.drew ?_ | with_reducible refine Chg.set ?_ (by omega) _))
  have t3 : w2.heap.size ≤ v3.heap.size := X3.out.size
  have Ev3 : Hid (Ex w v3) := Lib.hid (Ew2.out.chg X3.out (by omega))
  clear qR0 qR1 qR2 qR3 jR zR
  replace KR : Hid (Blk v3 (w.heap.size) 30 [.int .i64 0, .int .i64 0, .int .i64 0, .slice none 0 0]) := Lib.hid (KR.out.chg X3.out (by omega))
  replace HF2 := Lib.hid (HF2.out.chg X3.out WHF2.out (by omega))
  replace HRD2 := Lib.hid (HRD2.out.chg X3.out (by omega))
  clear hv3
  refine (l5Wrong_c g p2 t A2 c2 _ HRD2.out (by omega) HF2.out.rd (by omega) HF2.out.le HF2.out.cap).mono ?_; rintro r w3 ⟨u, A3, c3, p3, rfl, hl3, hf3, hrd3, hp3, hb3⟩
  have Y3 : Hid (Chg (g) (g + 1) v3 w3) := Lib.hid (Chg.of_grown hb3 (fun b hb => by injection hb with hb; omega))
  have s3 : v3.heap.size ≤ w3.heap.size := Y3.out.size
  have Ew3 : Hid (Ex w w3) := Lib.hid (Ev3.out.chg Y3.out (by omega))
  clear hb3
  replace KR : Hid (Blk w3 (w.heap.size) 30 [.int .i64 0, .int .i64 0, .int .i64 0, .slice none 0 0]) := Lib.hid (KR.out.chg Y3.out (by omega))
  replace HF2 := Lib.hid (HF2.out.chg Y3.out WHF2.out (by omega))
  clear HRD2
  have HF3 := Lib.hid hf3; clear hf3
  have WHF3 := Lib.hid HF3.out.row
  have HRD3 := Lib.hid hrd3; clear hrd3
  obtain ⟨qR0, qR1, qR2, qR3⟩ := KR.out.c4
  have jR := KR.out.lt
  have zR := KR.out.frozen
  go_wp2_with fail
  refine name_calls ?_; intro v4 hv4
  have X4 : Hid (Chg (0) (0) w3 v4) := Lib.hid (by rw [hv4]; repeat' (first | with_reducible exact Chg.refl _ _ _ | with_reducible refine Chg.alloc ?_ _ | with_reducible refine Chg.drew ?_ | with_reducible refine Chg.set ?_ (by omega) _))
  have t4 : w3.heap.size ≤ v4.heap.size := X4.out.size
  have Ev4 : Hid (Ex w v4) := Lib.hid (Ew3.out.chg X4.out (by omega))
  clear qR0 qR1 qR2 qR3 jR zR
  replace KR : Hid (Blk v4 (w.heap.size) 30 [.int .i64 0, .int .i64 0, .int .i64 0, .slice none 0 0]) := Lib.hid (KR.out.chg X4.out (by omega))
  replace HF2 := Lib.hid (HF2.out.chg X4.out WHF2.out (by omega))
  replace HF3 := Lib.hid (HF3.out.chg X4.out WHF3.out (by omega))
  replace HRD3 := Lib.hid (HRD3.out.chg X4.out (by omega))
  have L4 : Hid (Rd v4 (some ⟨w3.heap.size, 0, none⟩) ([0, 1, 2, 3, 7, 15, 16, -1] : List Int)) := Lib.hid (by rw [hv4]; repeat' (first | exact Rd.lits _ _ _ | exact Rd.lits_at _ _ _ (by simp) | with_reducible refine Rd.alloc ?_ _))
  clear hv4
  refine (num_c g p3 _ 0 _ [0, 1, 2, 3, 7, 15, 16, -1] _ HRD3.out L4.out (by simp) (by simp) (by omega) (by omega)).mono ?_; rintro r w4 ⟨f4, rfl, hhf4, hrd4, hb4⟩
  have Y4 : Hid (Chg (g) (g + 1) v4 w4) := Lib.hid (Chg.of_grown hb4 (fun b hb => by injection hb with hb; omega))
  have s4 : v4.heap.size ≤ w4.heap.size := Y4.out.size
  have Ew4 : Hid (Ex w w4) := Lib.hid (Ev4.out.chg Y4.out (by omega))
  clear hb4
  replace KR : Hid (Blk w4 (w.heap.size) 30 [.int .i64 0, .int .i64 0, .int .i64 0, .slice none 0 0]) := Lib.hid (KR.out.chg Y4.out (by omega))
  replace HF2 := Lib.hid (HF2.out.chg Y4.out WHF2.out (by omega))
  replace HF3 := Lib.hid (HF3.out.chg Y4.out WHF3.out (by omega))
  clear HRD3
  have HRD4 := Lib.hid hrd4; clear hrd4
  have HHF4 := Lib.hid hhf4; clear hhf4
  obtain ⟨qR0, qR1, qR2, qR3⟩ := KR.out.c4
  have jR := KR.out.lt
  have zR := KR.out.frozen
  go_wp2
  exact bodyPost_ret (v := .tuple #[.agg #[.int .i64 u.count, .int .i64 u.next, .int .i64 u.round, .slice A3 u.owns.length c3], .int .i64 f4]) (by first | (simp [results, Try.results67, go_sem, qR0, qR1]; done) | (simp [results, Try.results67, go_sem, qR0, qR1, qR2, qR3]; done)) rfl
    ⟨u, f4, A3, c3, rfl, by omega, Fr.mono (B := v3.heap.size) (by repeat' (first | with_reducible exact HF3.out | with_reducible refine Fr.alloc ?_ _ | with_reducible refine Fr.drew ?_ | with_reducible refine Fr.set_below ?_ (by first | (simp; done) | (simp; omega)) _)) (by omega), (by repeat' (first | with_reducible exact Ew4.out | with_reducible refine Ex.alloc ?_ _ | with_reducible refine Ex.drew ?_ | with_reducible refine Ex.put ?_ (by omega) _))⟩

set_option maxHeartbeats 4000000 in
theorem drawSpaceOf_c (A : Option Addr) (c : Nat) (bs : List ByteD) (w : World) (hx : Rd w A bs) (hb : Bytes bs) (hn : bs.length ≤ 1048576) (hc : bs.length ≤ c) (hcm : c ≤ maxLen) :
    Calls Try.prog 38 #[.slice A bs.length c] w (SomeTag w) := by
  have C0 := Lib.hid (fun w' (h : Ex w w') => l5Case_c A c bs w' (hx.ex h) hb hn hc hcm)
  generalize bs.length = n at C0 hn hc
  clear hx hb hn hc hcm
  go_enter Try.func38, Try.ntmps38
  go_wp2_with fail
  refine name_calls ?_; intro v1 hv1
  have X1 : Hid (Chg (0) (0) w v1) := Lib.hid (by rw [hv1]; repeat' (first | with_reducible exact Chg.refl _ _ _ | with_reducible refine Chg.alloc ?_ _ | with_reducible refine Chg.drew ?_ | with_reducible refine Chg.set ?_ (by omega) _))
  have t1 : w.heap.size ≤ v1.heap.size := X1.out.size
  have Ev1 : Hid (Ex w v1) := Lib.hid ((Ex.refl w).chg X1.out (by omega))
  have KR : Hid (Blk v1 (w.heap.size) 30 [.int .i64 0, .int .i64 0, .int .i64 0, .slice none 0 0]) := Lib.hid (by rw [hv1]; repeat' (first | with_reducible exact Blk.new_at _ _ _ (by simp) | with_reducible refine Blk.alloc ?_ _ | with_reducible refine Blk.drew ?_ | with_reducible refine Blk.far ?_ (by simp; omega) _))
  have lR : w.heap.size < v1.heap.size := KR.out.lt
  clear hv1
  refine (C0.out _ Ev1.out).mono ?_; rintro r w1 ⟨u, f1, A3, c3, rfl, hl1, hf3, hb1⟩
  have Y1 : Hid (Chg 0 0 v1 w1) := Lib.hid (Chg.of_ex hb1)
  have s1 : v1.heap.size ≤ w1.heap.size := Y1.out.size
  have Ew1 : Hid (Ex w w1) := Lib.hid (Ev1.out.chg Y1.out (by omega))
  clear hb1
  replace KR : Hid (Blk w1 (w.heap.size) 30 [.int .i64 0, .int .i64 0, .int .i64 0, .slice none 0 0]) := Lib.hid (KR.out.chg Y1.out (by omega))
  have HF3 := Lib.hid hf3; clear hf3
  have WHF3 := Lib.hid HF3.out.row
  obtain ⟨qR0, qR1, qR2, qR3⟩ := KR.out.c4
  have jR := KR.out.lt
  have zR := KR.out.frozen
  go_wp2
  exact bodyPost_ret (v := .tuple #[.agg #[.int .i64 u.count, .int .i64 u.next, .int .i64 u.round, .slice A3 u.owns.length c3], .int .i64 f1]) (by first | (simp [results, Try.results38, go_sem, qR0, qR1]; done) | (simp [results, Try.results38, go_sem, qR0, qR1, qR2, qR3]; done)) rfl
    ⟨u, f1, A3, c3, rfl, hl1, Fr.mono (B := v1.heap.size) (by repeat' (first | with_reducible exact HF3.out | with_reducible refine Fr.alloc ?_ _ | with_reducible refine Fr.drew ?_ | with_reducible refine Fr.set_below ?_ (by first | (simp; done) | (simp; omega)) _)) (by omega), (by repeat' (first | with_reducible exact Ew1.out | with_reducible refine Ex.alloc ?_ _ | with_reducible refine Ex.drew ?_ | with_reducible refine Ex.put ?_ (by omega) _))⟩

set_option maxHeartbeats 4000000 in
theorem drawLeaveTag_c (A : Option Addr) (c : Nat) (bs : List ByteD) (w : World) (hx : Rd w A bs) (hb : Bytes bs) (hn : bs.length ≤ 1048576) (hc : bs.length ≤ c) (hcm : c ≤ maxLen) :
    Calls Try.prog 46 #[.slice A bs.length c] w (SomeTag w) := by
  have C0 := Lib.hid (fun w' (h : Ex w w') => l5Case_c A c bs w' (hx.ex h) hb hn hc hcm)
  generalize bs.length = n at C0 hn hc
  clear hx hb hn hc hcm
  go_enter Try.func46, Try.ntmps46
  go_wp2_with fail
  refine name_calls ?_; intro v1 hv1
  have X1 : Hid (Chg (0) (0) w v1) := Lib.hid (by rw [hv1]; repeat' (first | with_reducible exact Chg.refl _ _ _ | with_reducible refine Chg.alloc ?_ _ | with_reducible refine Chg.drew ?_ | with_reducible refine Chg.set ?_ (by omega) _))
  have t1 : w.heap.size ≤ v1.heap.size := X1.out.size
  have Ev1 : Hid (Ex w v1) := Lib.hid ((Ex.refl w).chg X1.out (by omega))
  have KR : Hid (Blk v1 (w.heap.size) 30 [.int .i64 0, .int .i64 0, .int .i64 0, .slice none 0 0]) := Lib.hid (by rw [hv1]; repeat' (first | with_reducible exact Blk.new_at _ _ _ (by simp) | with_reducible refine Blk.alloc ?_ _ | with_reducible refine Blk.drew ?_ | with_reducible refine Blk.far ?_ (by simp; omega) _))
  have lR : w.heap.size < v1.heap.size := KR.out.lt
  clear hv1
  refine (C0.out _ Ev1.out).mono ?_; rintro r w1 ⟨u, f1, A3, c3, rfl, hl1, hf3, hb1⟩
  have Y1 : Hid (Chg 0 0 v1 w1) := Lib.hid (Chg.of_ex hb1)
  have s1 : v1.heap.size ≤ w1.heap.size := Y1.out.size
  have Ew1 : Hid (Ex w w1) := Lib.hid (Ev1.out.chg Y1.out (by omega))
  clear hb1
  replace KR : Hid (Blk w1 (w.heap.size) 30 [.int .i64 0, .int .i64 0, .int .i64 0, .slice none 0 0]) := Lib.hid (KR.out.chg Y1.out (by omega))
  have HF3 := Lib.hid hf3; clear hf3
  have WHF3 := Lib.hid HF3.out.row
  obtain ⟨qR0, qR1, qR2, qR3⟩ := KR.out.c4
  have jR := KR.out.lt
  have zR := KR.out.frozen
  go_wp2
  exact bodyPost_ret (v := .tuple #[.agg #[.int .i64 u.count, .int .i64 u.next, .int .i64 u.round, .slice A3 u.owns.length c3], .int .i64 f1]) (by first | (simp [results, Try.results46, go_sem, qR0, qR1]; done) | (simp [results, Try.results46, go_sem, qR0, qR1, qR2, qR3]; done)) rfl
    ⟨u, f1, A3, c3, rfl, hl1, Fr.mono (B := v1.heap.size) (by repeat' (first | with_reducible exact HF3.out | with_reducible refine Fr.alloc ?_ _ | with_reducible refine Fr.drew ?_ | with_reducible refine Fr.set_below ?_ (by first | (simp; done) | (simp; omega)) _)) (by omega), (by repeat' (first | with_reducible exact Ew1.out | with_reducible refine Ex.alloc ?_ _ | with_reducible refine Ex.drew ?_ | with_reducible refine Ex.put ?_ (by omega) _))⟩

set_option maxHeartbeats 4000000 in
theorem drawTakeTag_c (A : Option Addr) (c : Nat) (bs : List ByteD) (w : World) (hx : Rd w A bs) (hb : Bytes bs) (hn : bs.length ≤ 1048576) (hc : bs.length ≤ c) (hcm : c ≤ maxLen) :
    Calls Try.prog 47 #[.slice A bs.length c] w (SomeTag w) := by
  have C0 := Lib.hid (fun w' (h : Ex w w') => l5Case_c A c bs w' (hx.ex h) hb hn hc hcm)
  generalize bs.length = n at C0 hn hc
  clear hx hb hn hc hcm
  go_enter Try.func47, Try.ntmps47
  go_wp2_with fail
  refine name_calls ?_; intro v1 hv1
  have X1 : Hid (Chg (0) (0) w v1) := Lib.hid (by rw [hv1]; repeat' (first | with_reducible exact Chg.refl _ _ _ | with_reducible refine Chg.alloc ?_ _ | with_reducible refine Chg.drew ?_ | with_reducible refine Chg.set ?_ (by omega) _))
  have t1 : w.heap.size ≤ v1.heap.size := X1.out.size
  have Ev1 : Hid (Ex w v1) := Lib.hid ((Ex.refl w).chg X1.out (by omega))
  have KR : Hid (Blk v1 (w.heap.size) 30 [.int .i64 0, .int .i64 0, .int .i64 0, .slice none 0 0]) := Lib.hid (by rw [hv1]; repeat' (first | with_reducible exact Blk.new_at _ _ _ (by simp) | with_reducible refine Blk.alloc ?_ _ | with_reducible refine Blk.drew ?_ | with_reducible refine Blk.far ?_ (by simp; omega) _))
  have lR : w.heap.size < v1.heap.size := KR.out.lt
  clear hv1
  refine (C0.out _ Ev1.out).mono ?_; rintro r w1 ⟨u, f1, A3, c3, rfl, hl1, hf3, hb1⟩
  have Y1 : Hid (Chg 0 0 v1 w1) := Lib.hid (Chg.of_ex hb1)
  have s1 : v1.heap.size ≤ w1.heap.size := Y1.out.size
  have Ew1 : Hid (Ex w w1) := Lib.hid (Ev1.out.chg Y1.out (by omega))
  clear hb1
  replace KR : Hid (Blk w1 (w.heap.size) 30 [.int .i64 0, .int .i64 0, .int .i64 0, .slice none 0 0]) := Lib.hid (KR.out.chg Y1.out (by omega))
  have HF3 := Lib.hid hf3; clear hf3
  have WHF3 := Lib.hid HF3.out.row
  obtain ⟨qR0, qR1, qR2, qR3⟩ := KR.out.c4
  have jR := KR.out.lt
  have zR := KR.out.frozen
  go_wp2
  exact bodyPost_ret (v := .tuple #[.agg #[.int .i64 u.count, .int .i64 u.next, .int .i64 u.round, .slice A3 u.owns.length c3], .int .i64 f1]) (by first | (simp [results, Try.results47, go_sem, qR0, qR1]; done) | (simp [results, Try.results47, go_sem, qR0, qR1, qR2, qR3]; done)) rfl
    ⟨u, f1, A3, c3, rfl, hl1, Fr.mono (B := v1.heap.size) (by repeat' (first | with_reducible exact HF3.out | with_reducible refine Fr.alloc ?_ _ | with_reducible refine Fr.drew ?_ | with_reducible refine Fr.set_below ?_ (by first | (simp; done) | (simp; omega)) _)) (by omega), (by repeat' (first | with_reducible exact Ew1.out | with_reducible refine Ex.alloc ?_ _ | with_reducible refine Ex.drew ?_ | with_reducible refine Ex.put ?_ (by omega) _))⟩

set_option maxHeartbeats 4000000 in
theorem drawTagsValid_c (A : Option Addr) (c : Nat) (bs : List ByteD) (w : World) (hx : Rd w A bs) (hb : Bytes bs) (hn : bs.length ≤ 1048576) (hc : bs.length ≤ c) (hcm : c ≤ maxLen) :
    Calls Try.prog 36 #[.slice A bs.length c] w (SomeTags w) := by
  have C0 := Lib.hid (fun w' (h : Ex w w') => l12Open_c A c bs w' (hx.ex h) hb hn hc hcm)
  generalize bs.length = n at C0 hn hc
  clear hx hb hn hc hcm
  go_enter Try.func36, Try.ntmps36
  go_wp2_with fail
  refine name_calls ?_; intro v1 hv1
  have X1 : Hid (Chg (0) (0) w v1) := Lib.hid (by rw [hv1]; repeat' (first | with_reducible exact Chg.refl _ _ _ | with_reducible refine Chg.alloc ?_ _ | with_reducible refine Chg.drew ?_ | with_reducible refine Chg.set ?_ (by omega) _))
  have t1 : w.heap.size ≤ v1.heap.size := X1.out.size
  have Ev1 : Hid (Ex w v1) := Lib.hid ((Ex.refl w).chg X1.out (by omega))
  have KR : Hid (Blk v1 (w.heap.size) 30 [.int .i64 0, .int .i64 0, .int .i64 0, .slice none 0 0]) := Lib.hid (by rw [hv1]; repeat' (first | with_reducible exact Blk.new_at _ _ _ (by simp) | with_reducible refine Blk.alloc ?_ _ | with_reducible refine Blk.drew ?_ | with_reducible refine Blk.far ?_ (by simp; omega) _))
  have lR : w.heap.size < v1.heap.size := KR.out.lt
  clear hv1
  refine (C0.out _ Ev1.out).mono ?_; rintro r w1 ⟨g, rfl, hrd1, hg1, hb1⟩
  have Y1 : Hid (Chg 0 0 v1 w1) := Lib.hid (Chg.of_ex hb1)
  have s1 : v1.heap.size ≤ w1.heap.size := Y1.out.size
  have Ew1 : Hid (Ex w w1) := Lib.hid (Ev1.out.chg Y1.out (by omega))
  clear hb1
  replace KR : Hid (Blk w1 (w.heap.size) 30 [.int .i64 0, .int .i64 0, .int .i64 0, .slice none 0 0]) := Lib.hid (KR.out.chg Y1.out (by omega))
  have HRD1 := Lib.hid hrd1; clear hrd1
  obtain ⟨qR0, qR1, qR2, qR3⟩ := KR.out.c4
  have jR := KR.out.lt
  have zR := KR.out.frozen
  have lg : g < w1.heap.size := HRD1.out.lt
  go_wp2_with fail
  refine name_calls ?_; intro v2 hv2
  have X2 : Hid (Chg (0) (0) w1 v2) := Lib.hid (by rw [hv2]; repeat' (first | with_reducible exact Chg.refl _ _ _ | with_reducible refine Chg.alloc ?_ _ | with_reducible refine Chg.drew ?_ | with_reducible refine Chg.set ?_ (by omega) _))
  have t2 : w1.heap.size ≤ v2.heap.size := X2.out.size
  have Ev2 : Hid (Ex w v2) := Lib.hid (Ew1.out.chg X2.out (by omega))
  clear qR0 qR1 qR2 qR3 jR zR
  replace KR : Hid (Blk v2 (w.heap.size) 30 [.int .i64 0, .int .i64 0, .int .i64 0, .slice none 0 0]) := Lib.hid (KR.out.chg X2.out (by omega))
  replace HRD1 := Lib.hid (HRD1.out.chg X2.out (by omega))
  clear hv2
  refine (l5Draw_c g 0 _ HRD1.out (by omega)).mono ?_; rintro r w2 ⟨t, A2, c2, p2, rfl, hl2, hf2, hrd2, hp2, hb2⟩
  have Y2 : Hid (Chg (g) (g + 1) v2 w2) := Lib.hid (Chg.of_grown hb2 (fun b hb => by injection hb with hb; omega))
  have s2 : v2.heap.size ≤ w2.heap.size := Y2.out.size
  have Ew2 : Hid (Ex w w2) := Lib.hid (Ev2.out.chg Y2.out (by omega))
  clear hb2
  replace KR : Hid (Blk w2 (w.heap.size) 30 [.int .i64 0, .int .i64 0, .int .i64 0, .slice none 0 0]) := Lib.hid (KR.out.chg Y2.out (by omega))
  clear HRD1
  have HF2 := Lib.hid hf2; clear hf2
  have WHF2 := Lib.hid HF2.out.row
  have HRD2 := Lib.hid hrd2; clear hrd2
  obtain ⟨qR0, qR1, qR2, qR3⟩ := KR.out.c4
  have jR := KR.out.lt
  have zR := KR.out.frozen
  go_wp2_with fail
  refine name_calls ?_; intro v3 hv3
  have X3 : Hid (Chg (0) (0) w2 v3) := Lib.hid (by rw [hv3]; repeat' (first | with_reducible exact Chg.refl _ _ _ | with_reducible refine Chg.alloc ?_ _ | with_reducible refine Chg.drew ?_ | with_reducible refine Chg.set ?_ (by omega) _))
  have t3 : w2.heap.size ≤ v3.heap.size := X3.out.size
  have Ev3 : Hid (Ex w v3) := Lib.hid (Ew2.out.chg X3.out (by omega))
  clear qR0 qR1 qR2 qR3 jR zR
  replace KR : Hid (Blk v3 (w.heap.size) 30 [.int .i64 0, .int .i64 0, .int .i64 0, .slice none 0 0]) := Lib.hid (KR.out.chg X3.out (by omega))
  replace HF2 := Lib.hid (HF2.out.chg X3.out WHF2.out (by omega))
  replace HRD2 := Lib.hid (HRD2.out.chg X3.out (by omega))
  clear hv3
  refine (l5Wrong_c g p2 t A2 c2 _ HRD2.out (by omega) HF2.out.rd (by omega) HF2.out.le HF2.out.cap).mono ?_; rintro r w3 ⟨u, A3, c3, p3, rfl, hl3, hf3, hrd3, hp3, hb3⟩
  have Y3 : Hid (Chg (g) (g + 1) v3 w3) := Lib.hid (Chg.of_grown hb3 (fun b hb => by injection hb with hb; omega))
  have s3 : v3.heap.size ≤ w3.heap.size := Y3.out.size
  have Ew3 : Hid (Ex w w3) := Lib.hid (Ev3.out.chg Y3.out (by omega))
  clear hb3
  replace KR : Hid (Blk w3 (w.heap.size) 30 [.int .i64 0, .int .i64 0, .int .i64 0, .slice none 0 0]) := Lib.hid (KR.out.chg Y3.out (by omega))
  replace HF2 := Lib.hid (HF2.out.chg Y3.out WHF2.out (by omega))
  clear HRD2
  have HF3 := Lib.hid hf3; clear hf3
  have WHF3 := Lib.hid HF3.out.row
  have HRD3 := Lib.hid hrd3; clear hrd3
  obtain ⟨qR0, qR1, qR2, qR3⟩ := KR.out.c4
  have jR := KR.out.lt
  have zR := KR.out.frozen
  clear HF2 WHF2
  go_wp2_with fail
  refine name_calls ?_; intro v4 hv4
  have X4 : Hid (Chg (0) (0) w3 v4) := Lib.hid (by rw [hv4]; repeat' (first | with_reducible exact Chg.refl _ _ _ | with_reducible refine Chg.alloc ?_ _ | with_reducible refine Chg.drew ?_ | with_reducible refine Chg.set ?_ (by omega) _))
  have t4 : w3.heap.size ≤ v4.heap.size := X4.out.size
  have Ev4 : Hid (Ex w v4) := Lib.hid (Ew3.out.chg X4.out (by omega))
  clear qR0 qR1 qR2 qR3 jR zR
  replace KR : Hid (Blk v4 (w.heap.size) 30 [.int .i64 0, .int .i64 0, .int .i64 0, .slice none 0 0]) := Lib.hid (KR.out.chg X4.out (by omega))
  replace HF3 := Lib.hid (HF3.out.chg X4.out WHF3.out (by omega))
  replace HRD3 := Lib.hid (HRD3.out.chg X4.out (by omega))
  clear hv4
  refine (l5Wrong_c g p3 u A3 c3 _ HRD3.out (by omega) HF3.out.rd (by omega) HF3.out.le HF3.out.cap).mono ?_; rintro r w4 ⟨u2, A4, c4, p4, rfl, hl4, hf4, hrd4, hp4, hb4⟩
  have Y4 : Hid (Chg (g) (g + 1) v4 w4) := Lib.hid (Chg.of_grown hb4 (fun b hb => by injection hb with hb; omega))
  have s4 : v4.heap.size ≤ w4.heap.size := Y4.out.size
  have Ew4 : Hid (Ex w w4) := Lib.hid (Ev4.out.chg Y4.out (by omega))
  clear hb4
  replace KR : Hid (Blk w4 (w.heap.size) 30 [.int .i64 0, .int .i64 0, .int .i64 0, .slice none 0 0]) := Lib.hid (KR.out.chg Y4.out (by omega))
  replace HF3 := Lib.hid (HF3.out.chg Y4.out WHF3.out (by omega))
  clear HRD3
  have HF4 := Lib.hid hf4; clear hf4
  have WHF4 := Lib.hid HF4.out.row
  have HRD4 := Lib.hid hrd4; clear hrd4
  obtain ⟨qR0, qR1, qR2, qR3⟩ := KR.out.c4
  have jR := KR.out.lt
  have zR := KR.out.frozen
  clear HF3 WHF3
  go_wp2_with fail
  refine name_calls ?_; intro v5 hv5
  have X5 : Hid (Chg (0) (0) w4 v5) := Lib.hid (by rw [hv5]; repeat' (first | with_reducible exact Chg.refl _ _ _ | with_reducible refine Chg.alloc ?_ _ | with_reducible refine Chg.drew ?_ | with_reducible refine Chg.set ?_ (by omega) _))
  have t5 : w4.heap.size ≤ v5.heap.size := X5.out.size
  have Ev5 : Hid (Ex w v5) := Lib.hid (Ew4.out.chg X5.out (by omega))
  clear qR0 qR1 qR2 qR3 jR zR
  replace KR : Hid (Blk v5 (w.heap.size) 30 [.int .i64 0, .int .i64 0, .int .i64 0, .slice none 0 0]) := Lib.hid (KR.out.chg X5.out (by omega))
  replace HF4 := Lib.hid (HF4.out.chg X5.out WHF4.out (by omega))
  replace HRD4 := Lib.hid (HRD4.out.chg X5.out (by omega))
  clear hv5
  refine (l5Wrong_c g p4 u2 A4 c4 _ HRD4.out (by omega) HF4.out.rd (by omega) HF4.out.le HF4.out.cap).mono ?_; rintro r w5 ⟨u3, A5, c5, p5, rfl, hl5, hf5, hrd5, hp5, hb5⟩
  have Y5 : Hid (Chg (g) (g + 1) v5 w5) := Lib.hid (Chg.of_grown hb5 (fun b hb => by injection hb with hb; omega))
  have s5 : v5.heap.size ≤ w5.heap.size := Y5.out.size
  have Ew5 : Hid (Ex w w5) := Lib.hid (Ev5.out.chg Y5.out (by omega))
  clear hb5
  replace KR : Hid (Blk w5 (w.heap.size) 30 [.int .i64 0, .int .i64 0, .int .i64 0, .slice none 0 0]) := Lib.hid (KR.out.chg Y5.out (by omega))
  replace HF4 := Lib.hid (HF4.out.chg Y5.out WHF4.out (by omega))
  clear HRD4
  have HF5 := Lib.hid hf5; clear hf5
  have WHF5 := Lib.hid HF5.out.row
  have HRD5 := Lib.hid hrd5; clear hrd5
  obtain ⟨qR0, qR1, qR2, qR3⟩ := KR.out.c4
  have jR := KR.out.lt
  have zR := KR.out.frozen
  go_wp2
  exact bodyPost_ret (v := .agg #[.int .i64 u3.count, .int .i64 u3.next, .int .i64 u3.round, .slice A5 u3.owns.length c5]) (by first | (simp [results, Try.results36, go_sem, qR0, qR1]; done) | (simp [results, Try.results36, go_sem, qR0, qR1, qR2, qR3]; done)) rfl
    ⟨u3, A5, c5, rfl, by omega, Fr.mono (B := v5.heap.size) (by repeat' (first | with_reducible exact HF5.out | with_reducible refine Fr.alloc ?_ _ | with_reducible refine Fr.drew ?_ | with_reducible refine Fr.set_below ?_ (by first | (simp; done) | (simp; omega)) _)) (by omega), (by repeat' (first | with_reducible exact Ew5.out | with_reducible refine Ex.alloc ?_ _ | with_reducible refine Ex.drew ?_ | with_reducible refine Ex.put ?_ (by omega) _))⟩

set_option maxHeartbeats 4000000 in
theorem drawTakeTags_c (A : Option Addr) (c : Nat) (bs : List ByteD) (w : World) (hx : Rd w A bs) (hb : Bytes bs) (hn : bs.length ≤ 1048576) (hc : bs.length ≤ c) (hcm : c ≤ maxLen) :
    Calls Try.prog 48 #[.slice A bs.length c] w (SomeTake w) := by
  obtain ⟨i0, hi, hz0, hz1, hz2⟩ := info_parts infoInt
  have C0 := Lib.hid (fun w' (h : Ex w w') => l12Open_c A c bs w' (hx.ex h) hb hn hc hcm)
  generalize bs.length = n at C0 hn hc
  clear hx hb hn hc hcm
  go_enter Try.func48, Try.ntmps48
  go_wp2_with fail
  refine name_calls ?_; intro v1 hv1
  have X1 : Hid (Chg (0) (0) w v1) := Lib.hid (by rw [hv1]; repeat' (first | with_reducible exact Chg.refl _ _ _ | with_reducible refine Chg.alloc ?_ _ | with_reducible refine Chg.drew ?_ | with_reducible refine Chg.set ?_ (by omega) _))
  have t1 : w.heap.size ≤ v1.heap.size := X1.out.size
  have Ev1 : Hid (Ex w v1) := Lib.hid ((Ex.refl w).chg X1.out (by omega))
  have KR : Hid (Blk v1 (w.heap.size) 30 [.int .i64 0, .int .i64 0, .int .i64 0, .slice none 0 0]) := Lib.hid (by rw [hv1]; repeat' (first | with_reducible exact Blk.new_at _ _ _ (by simp) | with_reducible refine Blk.alloc ?_ _ | with_reducible refine Blk.drew ?_ | with_reducible refine Blk.far ?_ (by simp; omega) _))
  have lR : w.heap.size < v1.heap.size := KR.out.lt
  clear hv1
  refine (C0.out _ Ev1.out).mono ?_; rintro r w1 ⟨g, rfl, hrd1, hg1, hb1⟩
  have Y1 : Hid (Chg 0 0 v1 w1) := Lib.hid (Chg.of_ex hb1)
  have s1 : v1.heap.size ≤ w1.heap.size := Y1.out.size
  have Ew1 : Hid (Ex w w1) := Lib.hid (Ev1.out.chg Y1.out (by omega))
  clear hb1
  replace KR : Hid (Blk w1 (w.heap.size) 30 [.int .i64 0, .int .i64 0, .int .i64 0, .slice none 0 0]) := Lib.hid (KR.out.chg Y1.out (by omega))
  have HRD1 := Lib.hid hrd1; clear hrd1
  obtain ⟨qR0, qR1, qR2, qR3⟩ := KR.out.c4
  have jR := KR.out.lt
  have zR := KR.out.frozen
  have lg : g < w1.heap.size := HRD1.out.lt
  go_wp2_with fail
  refine name_calls ?_; intro v2 hv2
  have X2 : Hid (Chg (0) (0) w1 v2) := Lib.hid (by rw [hv2]; repeat' (first | with_reducible exact Chg.refl _ _ _ | with_reducible refine Chg.alloc ?_ _ | with_reducible refine Chg.drew ?_ | with_reducible refine Chg.set ?_ (by omega) _))
  have t2 : w1.heap.size ≤ v2.heap.size := X2.out.size
  have Ev2 : Hid (Ex w v2) := Lib.hid (Ew1.out.chg X2.out (by omega))
  clear qR0 qR1 qR2 qR3 jR zR
  replace KR : Hid (Blk v2 (w.heap.size) 30 [.int .i64 0, .int .i64 0, .int .i64 0, .slice none 0 0]) := Lib.hid (KR.out.chg X2.out (by omega))
  replace HRD1 := Lib.hid (HRD1.out.chg X2.out (by omega))
  clear hv2
  refine (l5Draw_c g 0 _ HRD1.out (by omega)).mono ?_; rintro r w2 ⟨t, A2, c2, p2, rfl, hl2, hf2, hrd2, hp2, hb2⟩
  have Y2 : Hid (Chg (g) (g + 1) v2 w2) := Lib.hid (Chg.of_grown hb2 (fun b hb => by injection hb with hb; omega))
  have s2 : v2.heap.size ≤ w2.heap.size := Y2.out.size
  have Ew2 : Hid (Ex w w2) := Lib.hid (Ev2.out.chg Y2.out (by omega))
  clear hb2
  replace KR : Hid (Blk w2 (w.heap.size) 30 [.int .i64 0, .int .i64 0, .int .i64 0, .slice none 0 0]) := Lib.hid (KR.out.chg Y2.out (by omega))
  clear HRD1
  have HF2 := Lib.hid hf2; clear hf2
  have WHF2 := Lib.hid HF2.out.row
  have HRD2 := Lib.hid hrd2; clear hrd2
  obtain ⟨qR0, qR1, qR2, qR3⟩ := KR.out.c4
  have jR := KR.out.lt
  have zR := KR.out.frozen
  go_wp2_with fail
  refine name_calls ?_; intro v3 hv3
  have X3 : Hid (Chg (0) (0) w2 v3) := Lib.hid (by rw [hv3]; repeat' (first | with_reducible exact Chg.refl _ _ _ | with_reducible refine Chg.alloc ?_ _ | with_reducible refine Chg.drew ?_ | with_reducible refine Chg.set ?_ (by omega) _))
  have t3 : w2.heap.size ≤ v3.heap.size := X3.out.size
  have Ev3 : Hid (Ex w v3) := Lib.hid (Ew2.out.chg X3.out (by omega))
  clear qR0 qR1 qR2 qR3 jR zR
  replace KR : Hid (Blk v3 (w.heap.size) 30 [.int .i64 0, .int .i64 0, .int .i64 0, .slice none 0 0]) := Lib.hid (KR.out.chg X3.out (by omega))
  replace HF2 := Lib.hid (HF2.out.chg X3.out WHF2.out (by omega))
  replace HRD2 := Lib.hid (HRD2.out.chg X3.out (by omega))
  clear hv3
  refine (l5Wrong_c g p2 t A2 c2 _ HRD2.out (by omega) HF2.out.rd (by omega) HF2.out.le HF2.out.cap).mono ?_; rintro r w3 ⟨u, A3, c3, p3, rfl, hl3, hf3, hrd3, hp3, hb3⟩
  have Y3 : Hid (Chg (g) (g + 1) v3 w3) := Lib.hid (Chg.of_grown hb3 (fun b hb => by injection hb with hb; omega))
  have s3 : v3.heap.size ≤ w3.heap.size := Y3.out.size
  have Ew3 : Hid (Ex w w3) := Lib.hid (Ev3.out.chg Y3.out (by omega))
  clear hb3
  replace KR : Hid (Blk w3 (w.heap.size) 30 [.int .i64 0, .int .i64 0, .int .i64 0, .slice none 0 0]) := Lib.hid (KR.out.chg Y3.out (by omega))
  replace HF2 := Lib.hid (HF2.out.chg Y3.out WHF2.out (by omega))
  clear HRD2
  have HF3 := Lib.hid hf3; clear hf3
  have WHF3 := Lib.hid HF3.out.row
  have HRD3 := Lib.hid hrd3; clear hrd3
  obtain ⟨qR0, qR1, qR2, qR3⟩ := KR.out.c4
  have jR := KR.out.lt
  have zR := KR.out.frozen
  clear HF2 WHF2
  go_wp2_with fail
  refine name_calls ?_; intro v4 hv4
  have X4 : Hid (Chg (0) (0) w3 v4) := Lib.hid (by rw [hv4]; repeat' (first | with_reducible exact Chg.refl _ _ _ | with_reducible refine Chg.alloc ?_ _ | with_reducible refine Chg.drew ?_ | with_reducible refine Chg.set ?_ (by omega) _))
  have t4 : w3.heap.size ≤ v4.heap.size := X4.out.size
  have Ev4 : Hid (Ex w v4) := Lib.hid (Ew3.out.chg X4.out (by omega))
  clear qR0 qR1 qR2 qR3 jR zR
  replace KR : Hid (Blk v4 (w.heap.size) 30 [.int .i64 0, .int .i64 0, .int .i64 0, .slice none 0 0]) := Lib.hid (KR.out.chg X4.out (by omega))
  replace HF3 := Lib.hid (HF3.out.chg X4.out WHF3.out (by omega))
  replace HRD3 := Lib.hid (HRD3.out.chg X4.out (by omega))
  have KO : Hid (Blk v4 (w3.heap.size) 30 [.int .i64 u.count, .int .i64 u.next, .int .i64 u.round, .slice A3 u.owns.length c3]) := Lib.hid (by rw [hv4]; repeat' (first | with_reducible exact Blk.new_at _ _ _ (by simp) | with_reducible refine Blk.alloc ?_ _ | with_reducible refine Blk.drew ?_ | with_reducible refine Blk.far ?_ (by simp; omega) _))
  have lO : w3.heap.size < v4.heap.size := KO.out.lt
  clear hv4
  refine (l5Spaces_c g p3 _ HRD3.out (by omega)).mono ?_; rintro r w4 ⟨zs, Z4, d4, p4, rfl, hl4, hf4, hrd4, hp4, hb4⟩
  have Y4 : Hid (Chg (g) (g + 1) v4 w4) := Lib.hid (Chg.of_grown hb4 (fun b hb => by injection hb with hb; omega))
  have s4 : v4.heap.size ≤ w4.heap.size := Y4.out.size
  have Ew4 : Hid (Ex w w4) := Lib.hid (Ev4.out.chg Y4.out (by omega))
  clear hb4
  replace KR : Hid (Blk w4 (w.heap.size) 30 [.int .i64 0, .int .i64 0, .int .i64 0, .slice none 0 0]) := Lib.hid (KR.out.chg Y4.out (by omega))
  replace KO : Hid (Blk w4 (w3.heap.size) 30 [.int .i64 u.count, .int .i64 u.next, .int .i64 u.round, .slice A3 u.owns.length c3]) := Lib.hid (KO.out.chg Y4.out (by omega))
  replace HF3 := Lib.hid (HF3.out.chg Y4.out WHF3.out (by omega))
  clear HRD3
  have HF4 := Lib.hid hf4; clear hf4
  have WHF4 := Lib.hid HF4.out.row
  have HRD4 := Lib.hid hrd4; clear hrd4
  obtain ⟨qR0, qR1, qR2, qR3⟩ := KR.out.c4
  have jR := KR.out.lt
  have zR := KR.out.frozen
  obtain ⟨qO0, qO1, qO2, qO3⟩ := KO.out.c4
  have jO := KO.out.lt
  go_wp2_with fail
  refine name_calls ?_; intro v5 hv5
  have X5 : Hid (Chg (0) (0) w4 v5) := Lib.hid (by rw [hv5]; repeat' (first | with_reducible exact Chg.refl _ _ _ | with_reducible refine Chg.alloc ?_ _ | with_reducible refine Chg.drew ?_ | with_reducible refine Chg.set ?_ (by omega) _))
  have t5 : w4.heap.size ≤ v5.heap.size := X5.out.size
  have Ev5 : Hid (Ex w v5) := Lib.hid (Ew4.out.chg X5.out (by omega))
  clear qR0 qR1 qR2 qR3 jR zR
  clear qO0 qO1 qO2 qO3 jO
  replace KR : Hid (Blk v5 (w.heap.size) 30 [.int .i64 0, .int .i64 0, .int .i64 0, .slice none 0 0]) := Lib.hid (KR.out.chg X5.out (by omega))
  replace KO : Hid (Blk v5 (w3.heap.size) 30 [.int .i64 u.count, .int .i64 u.next, .int .i64 u.round, .slice A3 u.owns.length c3]) := Lib.hid (KO.out.chg X5.out (by omega))
  replace HF3 := Lib.hid (HF3.out.chg X5.out WHF3.out (by omega))
  replace HF4 := Lib.hid (HF4.out.chg X5.out WHF4.out (by omega))
  replace HRD4 := Lib.hid (HRD4.out.chg X5.out (by omega))
  clear hv5
  refine (pick_c g p4 16 _ HRD4.out (by omega) (by omega)).mono ?_; rintro r w5 ⟨z5, rfl, hh5, hrd5, hb5⟩
  have Y5 : Hid (Chg (g) (g + 1) v5 w5) := Lib.hid (Chg.of_grown hb5 (fun b hb => by injection hb with hb; omega))
  have s5 : v5.heap.size ≤ w5.heap.size := Y5.out.size
  have Ew5 : Hid (Ex w w5) := Lib.hid (Ev5.out.chg Y5.out (by omega))
  clear hb5
  replace KR : Hid (Blk w5 (w.heap.size) 30 [.int .i64 0, .int .i64 0, .int .i64 0, .slice none 0 0]) := Lib.hid (KR.out.chg Y5.out (by omega))
  replace KO : Hid (Blk w5 (w3.heap.size) 30 [.int .i64 u.count, .int .i64 u.next, .int .i64 u.round, .slice A3 u.owns.length c3]) := Lib.hid (KO.out.chg Y5.out (by omega))
  replace HF3 := Lib.hid (HF3.out.chg Y5.out WHF3.out (by omega))
  replace HF4 := Lib.hid (HF4.out.chg Y5.out WHF4.out (by omega))
  clear HRD4
  have HRD5 := Lib.hid hrd5; clear hrd5
  have HH5 := Lib.hid hh5; clear hh5
  obtain ⟨qR0, qR1, qR2, qR3⟩ := KR.out.c4
  have jR := KR.out.lt
  have zR := KR.out.frozen
  obtain ⟨qO0, qO1, qO2, qO3⟩ := KO.out.c4
  have jO := KO.out.lt
  have hRO : ¬ w.heap.size = w3.heap.size := by omega
  by_cases hz : z5 = 0
  · have hz' : (z5 == 0) = true := by simp [hz]
    clear hz
    go_wp2_with fail
    refine name_calls ?_; intro v6 hv6
    have X6 : Hid (Chg (0) (0) w5 v6) := Lib.hid (by rw [hv6]; repeat' (first | with_reducible exact Chg.refl _ _ _ | with_reducible refine Chg.alloc ?_ _ | with_reducible refine Chg.drew ?_ | with_reducible refine Chg.set ?_ (by omega) _))
    have t6 : w5.heap.size ≤ v6.heap.size := X6.out.size
    have Ev6 : Hid (Ex w v6) := Lib.hid (Ew5.out.chg X6.out (by omega))
    clear qR0 qR1 qR2 qR3 jR zR
    clear qO0 qO1 qO2 qO3 jO
    replace KR : Hid (Blk v6 (w.heap.size) 30 [.int .i64 0, .int .i64 0, .int .i64 0, .slice none 0 0]) := Lib.hid (KR.out.chg X6.out (by omega))
    replace KO : Hid (Blk v6 (w3.heap.size) 30 [.int .i64 u.count, .int .i64 u.next, .int .i64 u.round, .slice A3 u.owns.length c3]) := Lib.hid (KO.out.chg X6.out (by omega))
    replace HF3 := Lib.hid (HF3.out.chg X6.out WHF3.out (by omega))
    replace HF4 := Lib.hid (HF4.out.chg X6.out WHF4.out (by omega))
    replace HRD5 := Lib.hid (HRD5.out.chg X6.out (by omega))
    have L6 : Hid (Rd v6 (some ⟨w5.heap.size, 0, none⟩) ([-1, 16] : List Int)) := Lib.hid (by rw [hv6]; repeat' (first | exact Rd.lits _ _ _ | exact Rd.lits_at _ _ _ (by simp) | with_reducible refine Rd.alloc ?_ _))
    clear hv6
    refine (num_c g (p4 + 1) _ 0 _ [-1, 16] _ HRD5.out L6.out (by simp) (by simp) (by omega) (by omega)).mono ?_; rintro r w6 ⟨f6, rfl, hhf6, hrd6, hb6⟩
    have Y6 : Hid (Chg (g) (g + 1) v6 w6) := Lib.hid (Chg.of_grown hb6 (fun b hb => by injection hb with hb; omega))
    have s6 : v6.heap.size ≤ w6.heap.size := Y6.out.size
    have Ew6 : Hid (Ex w w6) := Lib.hid (Ev6.out.chg Y6.out (by omega))
    clear hb6
    replace KR : Hid (Blk w6 (w.heap.size) 30 [.int .i64 0, .int .i64 0, .int .i64 0, .slice none 0 0]) := Lib.hid (KR.out.chg Y6.out (by omega))
    replace KO : Hid (Blk w6 (w3.heap.size) 30 [.int .i64 u.count, .int .i64 u.next, .int .i64 u.round, .slice A3 u.owns.length c3]) := Lib.hid (KO.out.chg Y6.out (by omega))
    replace HF3 := Lib.hid (HF3.out.chg Y6.out WHF3.out (by omega))
    replace HF4 := Lib.hid (HF4.out.chg Y6.out WHF4.out (by omega))
    clear HRD5
    have HRD6 := Lib.hid hrd6; clear hrd6
    have HHF6 := Lib.hid hhf6; clear hhf6
    obtain ⟨qR0, qR1, qR2, qR3⟩ := KR.out.c4
    have jR := KR.out.lt
    have zR := KR.out.frozen
    obtain ⟨qO0, qO1, qO2, qO3⟩ := KO.out.c4
    have jO := KO.out.lt
    have h63 : zs.length + 1 ≤ maxLen := by simp [maxLen]; omega
    have hby : (zs.length + 1) * 8 ≤ 140737488355328 := by omega
    go_wp2_with (at_builtin; refine wpList_append_fr (α := Int) rfl _ _ 38 rfl 3 i0 _ 8 v4.heap.size Try.underlying38 hi hz0 hz1 hz2 rfl _ _ _ zs rfl rfl (HF4.out.alloc _) _ 1 1 [f6] rfl rfl (one_int _ _) h63 hby (by simp <;> omega) ?_)
    intro A7 c7 w7 ha
    have HA := Lib.hid ha
    clear ha
    have Y7 : Hid (Chg v4.heap.size w4.heap.size w6 w7) := Lib.hid (((Chg.refl _ _ w6).alloc _).trans (Chg.of_grown HA.out.grown WHF4.out))
    have HL : Hid ((zs ++ [f6]).length = zs.length + 1) := Lib.hid (by simp)
    have HF7 := Lib.hid HA.out.fr
    clear HA
    clear HF4 WHF4
    clear HRD6
    have s7 : w6.heap.size ≤ w7.heap.size := Y7.out.size
    have Ew7 : Hid (Ex w w7) := Lib.hid (Ew6.out.chg Y7.out (by omega))
    clear qR0 qR1 qR2 qR3 jR zR
    clear qO0 qO1 qO2 qO3 jO
    replace KR : Hid (Blk w7 (w.heap.size) 30 [.int .i64 0, .int .i64 0, .int .i64 0, .slice none 0 0]) := Lib.hid (KR.out.chg Y7.out (by omega))
    replace KO : Hid (Blk w7 (w3.heap.size) 30 [.int .i64 u.count, .int .i64 u.next, .int .i64 u.round, .slice A3 u.owns.length c3]) := Lib.hid (KO.out.chg Y7.out (by omega))
    replace HF3 := Lib.hid (HF3.out.chg Y7.out WHF3.out (by omega))
    obtain ⟨qR0, qR1, qR2, qR3⟩ := KR.out.c4
    have jR := KR.out.lt
    have zR := KR.out.frozen
    obtain ⟨qO0, qO1, qO2, qO3⟩ := KO.out.c4
    have jO := KO.out.lt
    go_wp2
    exact bodyPost_ret (v := .tuple #[.agg #[.int .i64 u.count, .int .i64 u.next, .int .i64 u.round, .slice A3 u.owns.length c3], .slice A7 (zs.length + 1) c7]) (by first | (simp [results, Try.results48, go_sem, qR0, qR1]; done) | (simp [results, Try.results48, go_sem, qR0, qR1, qR2, qR3]; done)) rfl
      ⟨u, zs ++ [f6], A3, A7, c3, c7, by rw [HL.out], by omega, by rw [HL.out]; omega, Fr.mono (B := v3.heap.size) (by repeat' (first | with_reducible exact HF3.out | with_reducible refine Fr.alloc ?_ _ | with_reducible refine Fr.drew ?_ | with_reducible refine Fr.set_below ?_ (by first | (simp; done) | (simp; omega)) _)) (by omega), Fr.mono (B := v4.heap.size) (by repeat' (first | with_reducible exact HF7.out | with_reducible refine Fr.alloc ?_ _ | with_reducible refine Fr.drew ?_ | with_reducible refine Fr.set_below ?_ (by first | (simp; done) | (simp; omega)) _)) (by omega), (by repeat' (first | with_reducible exact Ew7.out | with_reducible refine Ex.alloc ?_ _ | with_reducible refine Ex.drew ?_ | with_reducible refine Ex.put ?_ (by omega) _))⟩
  have hz' : (z5 == 0) = false := by simp [hz]
  clear hz
  go_wp2
  exact bodyPost_ret (v := .tuple #[.agg #[.int .i64 u.count, .int .i64 u.next, .int .i64 u.round, .slice A3 u.owns.length c3], .slice Z4 zs.length d4]) (by first | (simp [results, Try.results48, go_sem, qR0, qR1]; done) | (simp [results, Try.results48, go_sem, qR0, qR1, qR2, qR3]; done)) rfl
    ⟨u, zs, A3, Z4, c3, d4, rfl, by omega, by omega, Fr.mono (B := v3.heap.size) (by repeat' (first | with_reducible exact HF3.out | with_reducible refine Fr.alloc ?_ _ | with_reducible refine Fr.drew ?_ | with_reducible refine Fr.set_below ?_ (by first | (simp; done) | (simp; omega)) _)) (by omega), Fr.mono (B := v4.heap.size) (by repeat' (first | with_reducible exact HF4.out | with_reducible refine Fr.alloc ?_ _ | with_reducible refine Fr.drew ?_ | with_reducible refine Fr.set_below ?_ (by first | (simp; done) | (simp; omega)) _)) (by omega), (by repeat' (first | with_reducible exact Ew5.out | with_reducible refine Ex.alloc ?_ _ | with_reducible refine Ex.drew ?_ | with_reducible refine Ex.put ?_ (by omega) _))⟩
end Go.Proofs.Ytkiohppknlmfaaa
