/- Drawn caches: the arguments of WireLine. -/
import Derived.Test.YtcaaficjcghheabDd
import Derived.Deep.RegionHeld3
namespace Go.Proofs.Ytcaaficjcghheab
open Go.ChangeShapes Go.WideShapes Go.ChangeAt Go.RowKit
open Rec (sz cs)
set_option linter.unusedVariables false
set_option maxRecDepth 100000

def SomeWire (w : World) (e : Ending) (w' : World) : Prop := ∃ (t : CacheD) (p : Int) (b : Bool) (A : Option Addr) (c : Nat), e = .returned (.tuple #[.agg #[.slice A t.lines.length c, .int .i64 t.hand], .int .i64 p, .bool b]) ∧ Few t ∧ Fr 31 w' w.heap.size A c t.lines ∧ Ex w w'

set_option maxHeartbeats 16000000 in
theorem drawWireLine_c (A : Option Addr) (c : Nat) (bs : List ByteD) (w : World) (hx : Rd w A bs) (hb : Bytes bs) (hn : bs.length ≤ 1048576) (hc : bs.length ≤ c) (hcm : c ≤ maxLen) :
    Calls Try.prog 27 #[.slice A bs.length c] w (SomeWire w) := by
  have C0 := Lib.hid (fun w' (h : Ex w w') => l12Open_c A c bs w' (hx.ex h) hb hn hc hcm)
  have C1 := Lib.hid (fun w' (h : Ex w w') => l4Case_c A c bs w' (hx.ex h) hb hn hc hcm)
  generalize bs.length = n at C0 C1 hn hc
  clear hx hb hn hc hcm
  go_enter Try.func27, Try.ntmps27
  go_wp2_with fail
  refine name_calls ?_; intro v1 hv1
  have X1 : Hid (Chg (0) (0) w v1) := Lib.hid (by rw [hv1]; repeat' (first | with_reducible exact Chg.refl _ _ _ | with_reducible refine Chg.alloc ?_ _ | with_reducible refine Chg.drew ?_ | with_reducible refine Chg.set ?_ (by omega) _))
  have t1 : w.heap.size ≤ v1.heap.size := X1.out.size
  have Ev1 : Hid (Ex w v1) := Lib.hid ((Ex.refl w).chg X1.out (by omega))
  have KR : Hid (Blk v1 (w.heap.size) 25 [.slice none 0 0, .int .i64 0]) := Lib.hid (by rw [hv1]; repeat' (first | with_reducible exact Blk.new_at _ _ _ (by simp) | with_reducible refine Blk.alloc ?_ _ | with_reducible refine Blk.drew ?_ | with_reducible refine Blk.far ?_ (by simp; omega) _))
  have lR : w.heap.size < v1.heap.size := KR.out.lt
  clear hv1
  refine (C1.out _ Ev1.out).mono ?_; rintro r w1 ⟨t, A1, c1, rfl, hww, hf1, hb1⟩
  have Y1 : Hid (Chg 0 0 v1 w1) := Lib.hid (Chg.of_ex hb1)
  have s1 : v1.heap.size ≤ w1.heap.size := Y1.out.size
  have Ew1 : Hid (Ex w w1) := Lib.hid (Ev1.out.chg Y1.out (by omega))
  clear hb1
  replace KR : Hid (Blk w1 (w.heap.size) 25 [.slice none 0 0, .int .i64 0]) := Lib.hid (KR.out.chg Y1.out (by omega))
  have HF1 := Lib.hid hf1; clear hf1
  have WHF1 := Lib.hid HF1.out.row
  obtain ⟨qR0, qR1⟩ := KR.out.c2
  have jR := KR.out.lt
  have HWW := Lib.hid hww
  clear hww
  go_wp2_with fail
  refine name_calls ?_; intro v2 hv2
  have X2 : Hid (Chg (0) (0) w1 v2) := Lib.hid (by rw [hv2]; repeat' (first | with_reducible exact Chg.refl _ _ _ | with_reducible refine Chg.alloc ?_ _ | with_reducible refine Chg.drew ?_ | with_reducible refine Chg.set ?_ (by omega) _))
  have t2 : w1.heap.size ≤ v2.heap.size := X2.out.size
  have Ev2 : Hid (Ex w v2) := Lib.hid (Ew1.out.chg X2.out (by omega))
  clear qR0 qR1 jR
  replace KR : Hid (Blk v2 (w.heap.size) 25 [.slice none 0 0, .int .i64 0]) := Lib.hid (KR.out.chg X2.out (by omega))
  replace HF1 := Lib.hid (HF1.out.chg X2.out WHF1.out (by omega))
  have KC : Hid (Blk v2 (w1.heap.size) 25 [.slice A1 t.lines.length c1, .int .i64 t.hand]) := Lib.hid (by rw [hv2]; repeat' (first | with_reducible exact Blk.new_at _ _ _ (by simp) | with_reducible refine Blk.alloc ?_ _ | with_reducible refine Blk.drew ?_ | with_reducible refine Blk.far ?_ (by simp; omega) _))
  have lC : w1.heap.size < v2.heap.size := KC.out.lt
  clear hv2
  refine (C0.out _ Ev2.out).mono ?_; rintro r w2 ⟨g, rfl, hrd2, hg2, hb2⟩
  have Y2 : Hid (Chg 0 0 v2 w2) := Lib.hid (Chg.of_ex hb2)
  have s2 : v2.heap.size ≤ w2.heap.size := Y2.out.size
  have Ew2 : Hid (Ex w w2) := Lib.hid (Ev2.out.chg Y2.out (by omega))
  clear hb2
  replace KR : Hid (Blk w2 (w.heap.size) 25 [.slice none 0 0, .int .i64 0]) := Lib.hid (KR.out.chg Y2.out (by omega))
  replace KC : Hid (Blk w2 (w1.heap.size) 25 [.slice A1 t.lines.length c1, .int .i64 t.hand]) := Lib.hid (KC.out.chg Y2.out (by omega))
  replace HF1 := Lib.hid (HF1.out.chg Y2.out WHF1.out (by omega))
  have HRD2 := Lib.hid hrd2; clear hrd2
  obtain ⟨qR0, qR1⟩ := KR.out.c2
  have jR := KR.out.lt
  obtain ⟨qC0, qC1⟩ := KC.out.c2
  have jC := KC.out.lt
  have lg : g < w2.heap.size := HRD2.out.lt
  have CN : Hid (∀ (b : Nat) (w1 : World), Rdr w1 g 0 → Rd w1 (some ⟨b, 0, none⟩) ([0, 1, 2, 0, -1, 8] : List Int) → b ≠ g → Calls Try.prog 56 #[.pointer (some ⟨g, 0, none⟩), .slice (some ⟨b, 0, none⟩) 6 6] w1 (Chosen g 0 [0, 1, 2, 0, -1, 8] w1)) := Lib.hid (fun b w1 h hz hne => num_c g 0 b 0 6 [0, 1, 2, 0, -1, 8] w1 h hz (by simp) (by simp) (by omega) hne)
  have CP : Hid (∀ w1, Rdr w1 g (0 + 1) → Calls Try.prog 57 #[.pointer (some ⟨g, 0, none⟩), .int .i64 3] w1 (Picked g (0 + 1) 3 w1)) := Lib.hid (fun w1 h => pick_c g (0 + 1) 3 w1 h (by omega) (by omega))
  obtain ⟨gC, hgC⟩ : ∃ gC, gC = w1.heap.size := ⟨_, rfl⟩
  have hgCv : gC < v2.heap.size := by omega
  have hgCw : w.heap.size < gC := by omega
  rw [← hgC] at KC qC0 qC1 jC ⊢
  clear hgC
  have hCR : gC ≠ w.heap.size := by omega
  have hneL : w2.heap.size ≠ g := by omega
  have hneC : some gC ≠ some g := fun e => by injection e with e; omega
  have hneR : some w.heap.size ≠ some g := fun e => by injection e with e; omega
  clear qR0 qR1 jR
  go_wp2_with fail
  go_region_held3 (fun w' => (w'.cell? ⟨gC, 0, none⟩ = some (.slice A1 t.lines.length c1) ∧ w'.cell? ⟨gC, 1, none⟩ = some (.int .i64 t.hand))) (first | exact KC.out.c2 | exact (Blk.drew KC.out).c2 | exact ((Blk.drew KC.out).alloc _).c2 | exact hka.c2 | exact hkb.c2 | exact (Blk.far (Blk.far hkb hCR _) hCR _).c2 | go_keep) (first | (go_at_call 56; (with_reducible refine (CN.out _ _ ?_ ?_ ?_).mono ?_); (exact (Rdr.drew HRD2.out).alloc _); (exact Rd.lits _ _ _); (exact hneL); rintro r wa ⟨p4, rfl, hv4, hra, hga⟩; have hka := Blk.grown ((Blk.drew KC.out).alloc _) hga hneC) | (go_at_call 57; (with_reducible refine (CP.out _ ?_).mono ?_); (exact hra); rintro r wb ⟨z5, rfl, hv5, hrb, hgb⟩; have hkb := Blk.grown hka hgb hneC; have hRb := Blk.grown (Blk.grown ((Blk.drew KR.out).alloc _) hga hneR) hgb hneR; obtain ⟨r0, r1⟩ := hRb.c2; have rfz := hRb.frozen; have rl := hRb.lt))
  rename_i hHeld
  clear hHeld
  have Y3 : Chg g (g + 1) w2 wb := (((Chg.refl g (g + 1) w2).drew.alloc _).trans (Chg.of_grown hga (fun b hb => by injection hb with hb; omega))).trans (Chg.of_grown hgb (fun b hb => by injection hb with hb; omega))
  have Ew3 : Hid (Ex w wb) := Lib.hid (Ew2.out.chg Y3 (by omega))
  have HF3 : Hid (Fr 31 wb v1.heap.size A1 c1 t.lines) := Lib.hid (HF1.out.chg Y3 WHF1.out (by omega))
  clear hv4 hra hga hka hv5 hrb hgb hkb hRb Y3
  go_wp2
  exact bodyPost_ret (v := .tuple #[.agg #[.slice A1 t.lines.length c1, .int .i64 t.hand], .int .i64 p4, .bool (decide (0 < z5))]) (by first | (simp [results, Try.results27, go_sem, r0, r1]; done) | (simp [results, Try.results27, go_sem, r0, r1, rl]; done)) rfl
    ⟨t, p4, decide (0 < z5), A1, c1, rfl, HWW.out, Fr.mono (B := v1.heap.size) (by repeat' (first | with_reducible exact HF3.out | with_reducible refine Fr.alloc ?_ _ | with_reducible refine Fr.drew ?_ | with_reducible refine Fr.set_below ?_ (by first | (simp; done) | (simp; omega)) _)) (by omega), (by repeat' (first | with_reducible exact Ew3.out | with_reducible refine Ex.alloc ?_ _ | with_reducible refine Ex.drew ?_ | with_reducible refine Ex.put ?_ (by omega) _))⟩
end Go.Proofs.Ytcaaficjcghheab
