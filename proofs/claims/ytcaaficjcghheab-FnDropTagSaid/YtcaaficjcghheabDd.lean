/- Drawn caches: l4Case and the drawings of arguments that rest on it. -/
import Derived.Test.YtcaaficjcghheabDc
namespace Go.Proofs.Ytcaaficjcghheab
open Go.ChangeShapes Go.WideShapes Go.ChangeAt Go.RowKit
open Rec (sz cs)
set_option linter.unusedVariables false
set_option maxRecDepth 100000

def SomeCache (w : World) (e : Ending) (w' : World) : Prop := ∃ (t : CacheD) (A : Option Addr) (c : Nat), e = .returned (.agg #[.slice A t.lines.length c, .int .i64 t.hand]) ∧ Few t ∧ Fr 31 w' w.heap.size A c t.lines ∧ Ex w w'
def SomeNum (zs : List Int) (w : World) (e : Ending) (w' : World) : Prop := ∃ v : Int, e = .returned (.int .i64 v) ∧ v ∈ zs ∧ Ex w w'

set_option maxHeartbeats 4000000 in
theorem l4Case_c (A : Option Addr) (c : Nat) (bs : List ByteD) (w : World) (hx : Rd w A bs) (hb : Bytes bs) (hn : bs.length ≤ 1048576) (hc : bs.length ≤ c) (hcm : c ≤ maxLen) :
    Calls Try.prog 41 #[.slice A bs.length c] w (SomeCache w) := by
  have C0 := Lib.hid (fun w' (h : Ex w w') => l12Open_c A c bs w' (hx.ex h) hb hn hc hcm)
  generalize bs.length = n at C0 hn hc
  clear hx hb hn hc hcm
  go_enter Try.func41, Try.ntmps41
  go_wp2_with fail
  refine name_calls ?_; intro v1 hv1
  have X1 : Hid (Chg (0) (0) w v1) := Lib.hid (by rw [hv1]; repeat' (first | with_reducible exact Chg.refl _ _ _ | with_reducible refine Chg.alloc ?_ _ | with_reducible refine Chg.drew ?_ | with_reducible refine Chg.set ?_ (by omega) _))
  have t1 : w.heap.size ≤ v1.heap.size := X1.out.size
  have Ev1 : Hid (Ex w v1) := Lib.hid ((Ex.refl w).chg X1.out (by omega))
  have KR : Hid (Blk v1 (w.heap.size) 25 [.slice none 0 0, .int .i64 0]) := Lib.hid (by rw [hv1]; repeat' (first | with_reducible exact Blk.new_at _ _ _ (by simp) | with_reducible refine Blk.alloc ?_ _ | with_reducible refine Blk.drew ?_ | with_reducible refine Blk.far ?_ (by simp; omega) _))
  have lR : w.heap.size < v1.heap.size := KR.out.lt
  clear hv1
  refine (C0.out _ Ev1.out).mono ?_; rintro r w1 ⟨g, rfl, hrd1, hg1, hb1⟩
  have Y1 : Hid (Chg 0 0 v1 w1) := Lib.hid (Chg.of_ex hb1)
  have s1 : v1.heap.size ≤ w1.heap.size := Y1.out.size
  have Ew1 : Hid (Ex w w1) := Lib.hid (Ev1.out.chg Y1.out (by omega))
  clear hb1
  replace KR : Hid (Blk w1 (w.heap.size) 25 [.slice none 0 0, .int .i64 0]) := Lib.hid (KR.out.chg Y1.out (by omega))
  have HRD1 := Lib.hid hrd1; clear hrd1
  obtain ⟨qR0, qR1⟩ := KR.out.c2
  have jR := KR.out.lt
  have zR := KR.out.frozen
  have lg : g < w1.heap.size := HRD1.out.lt
  go_wp2_with fail
  refine name_calls ?_; intro v2 hv2
  have X2 : Hid (Chg (0) (0) w1 v2) := Lib.hid (by rw [hv2]; repeat' (first | with_reducible exact Chg.refl _ _ _ | with_reducible refine Chg.alloc ?_ _ | with_reducible refine Chg.drew ?_ | with_reducible refine Chg.set ?_ (by omega) _))
  have t2 : w1.heap.size ≤ v2.heap.size := X2.out.size
  have Ev2 : Hid (Ex w v2) := Lib.hid (Ew1.out.chg X2.out (by omega))
  clear qR0 qR1 jR zR
  replace KR : Hid (Blk v2 (w.heap.size) 25 [.slice none 0 0, .int .i64 0]) := Lib.hid (KR.out.chg X2.out (by omega))
  replace HRD1 := Lib.hid (HRD1.out.chg X2.out (by omega))
  clear hv2
  refine (l4Draw_c g 0 _ HRD1.out (by omega)).mono ?_; rintro r w2 ⟨t, A2, c2, p2, rfl, hd, hf2, hrd2, hp2, hb2⟩
  have Y2 : Hid (Chg (g) (g + 1) v2 w2) := Lib.hid (Chg.of_grown hb2 (fun b hb => by injection hb with hb; omega))
  have s2 : v2.heap.size ≤ w2.heap.size := Y2.out.size
  have Ew2 : Hid (Ex w w2) := Lib.hid (Ev2.out.chg Y2.out (by omega))
  clear hb2
  replace KR : Hid (Blk w2 (w.heap.size) 25 [.slice none 0 0, .int .i64 0]) := Lib.hid (KR.out.chg Y2.out (by omega))
  clear HRD1
  have HF2 := Lib.hid hf2; clear hf2
  have WHF2 := Lib.hid HF2.out.row
  have HRD2 := Lib.hid hrd2; clear hrd2
  obtain ⟨qR0, qR1⟩ := KR.out.c2
  have jR := KR.out.lt
  have zR := KR.out.frozen
  go_wp2_with fail
  refine name_calls ?_; intro v3 hv3
  have X3 : Hid (Chg (0) (0) w2 v3) := Lib.hid (by rw [hv3]; repeat' (first | with_reducible exact Chg.refl _ _ _ | with_reducible refine Chg.alloc ?_ _ | with_reducible refine Chg.drew ?_ | with_reducible refine Chg.set ?_ (by omega) _))
  have t3 : w2.heap.size ≤ v3.heap.size := X3.out.size
  have Ev3 : Hid (Ex w v3) := Lib.hid (Ew2.out.chg X3.out (by omega))
  clear qR0 qR1 jR zR
  replace KR : Hid (Blk v3 (w.heap.size) 25 [.slice none 0 0, .int .i64 0]) := Lib.hid (KR.out.chg X3.out (by omega))
  replace HF2 := Lib.hid (HF2.out.chg X3.out WHF2.out (by omega))
  replace HRD2 := Lib.hid (HRD2.out.chg X3.out (by omega))
  clear hv3
  refine (l4Wrong_c g p2 t A2 c2 _ HRD2.out (by omega) hd.few HF2.out.rd HF2.out.le HF2.out.cap).mono ?_; rintro r w3 ⟨u, A3, c3, p3, rfl, hww, hf3, hrd3, hp3, hb3⟩
  have Y3 : Hid (Chg (g) (g + 1) v3 w3) := Lib.hid (Chg.of_grown hb3 (fun b hb => by injection hb with hb; omega))
  have s3 : v3.heap.size ≤ w3.heap.size := Y3.out.size
  have Ew3 : Hid (Ex w w3) := Lib.hid (Ev3.out.chg Y3.out (by omega))
  clear hb3
  replace KR : Hid (Blk w3 (w.heap.size) 25 [.slice none 0 0, .int .i64 0]) := Lib.hid (KR.out.chg Y3.out (by omega))
  replace HF2 := Lib.hid (HF2.out.chg Y3.out WHF2.out (by omega))
  clear HRD2
  have HF3 := Lib.hid hf3; clear hf3
  have WHF3 := Lib.hid HF3.out.row
  have HRD3 := Lib.hid hrd3; clear hrd3
  obtain ⟨qR0, qR1⟩ := KR.out.c2
  have jR := KR.out.lt
  have zR := KR.out.frozen
  have HWW := Lib.hid hww
  clear hww hd
  go_wp2
  exact bodyPost_ret (v := .agg #[.slice A3 u.lines.length c3, .int .i64 u.hand]) (by first | (simp [results, Try.results41, go_sem, qR0, qR1]; done)) rfl
    ⟨u, A3, c3, rfl, HWW.out, Fr.mono (B := v3.heap.size) (by repeat' (first | with_reducible exact HF3.out | with_reducible refine Fr.alloc ?_ _ | with_reducible refine Fr.drew ?_ | with_reducible refine Fr.set_below ?_ (by first | (simp; done) | (simp; omega)) _)) (by omega), (by repeat' (first | with_reducible exact Ew3.out | with_reducible refine Ex.alloc ?_ _ | with_reducible refine Ex.drew ?_ | with_reducible refine Ex.put ?_ (by omega) _))⟩

set_option maxHeartbeats 4000000 in
theorem drawDropAll_c (A : Option Addr) (c : Nat) (bs : List ByteD) (w : World) (hx : Rd w A bs) (hb : Bytes bs) (hn : bs.length ≤ 1048576) (hc : bs.length ≤ c) (hcm : c ≤ maxLen) :
    Calls Try.prog 16 #[.slice A bs.length c] w (SomeCache w) := by
  have C0 := Lib.hid (fun w' (h : Ex w w') => l4Case_c A c bs w' (hx.ex h) hb hn hc hcm)
  generalize bs.length = n at C0 hn hc
  clear hx hb hn hc hcm
  go_enter Try.func16, Try.ntmps16
  go_wp2_with fail
  refine name_calls ?_; intro v1 hv1
  have X1 : Hid (Chg (0) (0) w v1) := Lib.hid (by rw [hv1]; repeat' (first | with_reducible exact Chg.refl _ _ _ | with_reducible refine Chg.alloc ?_ _ | with_reducible refine Chg.drew ?_ | with_reducible refine Chg.set ?_ (by omega) _))
  have t1 : w.heap.size ≤ v1.heap.size := X1.out.size
  have Ev1 : Hid (Ex w v1) := Lib.hid ((Ex.refl w).chg X1.out (by omega))
  have KR : Hid (Blk v1 (w.heap.size) 25 [.slice none 0 0, .int .i64 0]) := Lib.hid (by rw [hv1]; repeat' (first | with_reducible exact Blk.new_at _ _ _ (by simp) | with_reducible refine Blk.alloc ?_ _ | with_reducible refine Blk.drew ?_ | with_reducible refine Blk.far ?_ (by simp; omega) _))
  have lR : w.heap.size < v1.heap.size := KR.out.lt
  clear hv1
  refine (C0.out _ Ev1.out).mono ?_; rintro r w1 ⟨u, A3, c3, rfl, hww, hf3, hb1⟩
  have Y1 : Hid (Chg 0 0 v1 w1) := Lib.hid (Chg.of_ex hb1)
  have s1 : v1.heap.size ≤ w1.heap.size := Y1.out.size
  have Ew1 : Hid (Ex w w1) := Lib.hid (Ev1.out.chg Y1.out (by omega))
  clear hb1
  replace KR : Hid (Blk w1 (w.heap.size) 25 [.slice none 0 0, .int .i64 0]) := Lib.hid (KR.out.chg Y1.out (by omega))
  have HF3 := Lib.hid hf3; clear hf3
  have WHF3 := Lib.hid HF3.out.row
  obtain ⟨qR0, qR1⟩ := KR.out.c2
  have jR := KR.out.lt
  have zR := KR.out.frozen
  have HWW := Lib.hid hww
  clear hww
  go_wp2
  exact bodyPost_ret (v := .agg #[.slice A3 u.lines.length c3, .int .i64 u.hand]) (by first | (simp [results, Try.results16, go_sem, qR0, qR1]; done)) rfl
    ⟨u, A3, c3, rfl, HWW.out, Fr.mono (B := v1.heap.size) (by repeat' (first | with_reducible exact HF3.out | with_reducible refine Fr.alloc ?_ _ | with_reducible refine Fr.drew ?_ | with_reducible refine Fr.set_below ?_ (by first | (simp; done) | (simp; omega)) _)) (by omega), (by repeat' (first | with_reducible exact Ew1.out | with_reducible refine Ex.alloc ?_ _ | with_reducible refine Ex.drew ?_ | with_reducible refine Ex.put ?_ (by omega) _))⟩

end Go.Proofs.Ytcaaficjcghheab
