/- Drawn caches: the drawings of arguments that rest on l4At. -/
import Derived.Test.YtidnefcnojedoaaDe
namespace Go.Proofs.Ytidnefcnojedoaa
open Go.ChangeShapes Go.WideShapes Go.ChangeAt Go.RowKit
open Rec (sz cs)
set_option linter.unusedVariables false
set_option maxRecDepth 100000

def SomeTag (w : World) (e : Ending) (w' : World) : Prop := ∃ (t : CacheD) (tag : Int) (A : Option Addr) (c : Nat), e = .returned (.tuple #[.agg #[.slice A t.lines.length c, .int .i64 t.hand], .int .i64 tag]) ∧ Few t ∧ Fr 43 w' w.heap.size A c t.lines ∧ Ex w w'

set_option maxHeartbeats 4000000 in
theorem drawFindLine_c (A : Option Addr) (c : Nat) (bs : List ByteD) (w : World) (hx : Rd w A bs) (hb : Bytes bs) (hn : bs.length ≤ 1048576) (hc : bs.length ≤ c) (hcm : c ≤ maxLen) :
    Calls Try.prog 15 #[.slice A bs.length c] w (SomeAt w) := by
  have C0 := Lib.hid (fun w' (h : Ex w w') => l4At_c A c bs w' (hx.ex h) hb hn hc hcm)
  generalize bs.length = n at C0 hn hc
  clear hx hb hn hc hcm
  go_enter Try.func15, Try.ntmps15
  go_wp2_with fail
  refine name_calls ?_; intro v1 hv1
  have X1 : Hid (Chg (0) (0) w v1) := Lib.hid (by rw [hv1]; repeat' (first | with_reducible exact Chg.refl _ _ _ | with_reducible refine Chg.alloc ?_ _ | with_reducible refine Chg.drew ?_ | with_reducible refine Chg.set ?_ (by omega) _))
  have t1 : w.heap.size ≤ v1.heap.size := X1.out.size
  have Ev1 : Hid (Ex w v1) := Lib.hid ((Ex.refl w).chg X1.out (by omega))
  have KR : Hid (Blk v1 (w.heap.size) 33 [.slice none 0 0, .int .i64 0]) := Lib.hid (by rw [hv1]; repeat' (first | with_reducible exact Blk.new_at _ _ _ (by simp) | with_reducible refine Blk.alloc ?_ _ | with_reducible refine Blk.drew ?_ | with_reducible refine Blk.far ?_ (by simp; omega) _))
  have lR : w.heap.size < v1.heap.size := KR.out.lt
  clear hv1
  refine (C0.out _ Ev1.out).mono ?_; rintro r w1 ⟨u, tag, page, A3, c3, rfl, hww, hf3, hb1⟩
  have Y1 : Hid (Chg 0 0 v1 w1) := Lib.hid (Chg.of_ex hb1)
  have s1 : v1.heap.size ≤ w1.heap.size := Y1.out.size
  have Ew1 : Hid (Ex w w1) := Lib.hid (Ev1.out.chg Y1.out (by omega))
  clear hb1
  replace KR : Hid (Blk w1 (w.heap.size) 33 [.slice none 0 0, .int .i64 0]) := Lib.hid (KR.out.chg Y1.out (by omega))
  have HF3 := Lib.hid hf3; clear hf3
  have WHF3 := Lib.hid HF3.out.row
  obtain ⟨qR0, qR1⟩ := KR.out.c2
  have jR := KR.out.lt
  have zR := KR.out.frozen
  have HWW := Lib.hid hww
  clear hww
  go_wp2
  exact bodyPost_ret (v := .tuple #[.agg #[.slice A3 u.lines.length c3, .int .i64 u.hand], .int .i64 tag, .int .i64 page]) (by first | (simp [results, Try.results15, go_sem, qR0, qR1]; done)) rfl
    ⟨u, tag, page, A3, c3, rfl, HWW.out, Fr.mono (B := v1.heap.size) (by repeat' (first | with_reducible exact HF3.out | with_reducible refine Fr.alloc ?_ _ | with_reducible refine Fr.drew ?_ | with_reducible refine Fr.set_below ?_ (by first | (simp; done) | (simp; omega)) _)) (by omega), (by repeat' (first | with_reducible exact Ew1.out | with_reducible refine Ex.alloc ?_ _ | with_reducible refine Ex.drew ?_ | with_reducible refine Ex.put ?_ (by omega) _))⟩

end Go.Proofs.Ytidnefcnojedoaa
