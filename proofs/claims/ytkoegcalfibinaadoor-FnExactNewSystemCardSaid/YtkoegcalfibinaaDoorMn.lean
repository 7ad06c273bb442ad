/- Contracts of the small functions over Note: comparing, copying, counting, marking. Written by a program of mine from one pattern. -/
import Derived.Test.YtkoegcalfibinaaDoorChg
import Derived.Test.YtkoegcalfibinaaDoorRows
import Derived.Test.YtkoegcalfibinaaDoorMk
namespace Go.Proofs.YtkoegcalfibinaaDoor
open Go.ChangeShapes Go.WideShapes Go.ChangeAt Go.RowKit
open Rec (sz cs)
set_option linter.unusedVariables false
set_option maxRecDepth 100000

theorem Rd.note {w : World} {A : Option Addr} {k : Nat} {xs : List NoteD} (h : Rd w A xs) (hk : k < xs.length) : ∃ b off x, A = some ⟨b, off, none⟩ ∧ b < w.heap.size ∧ xs[k]? = some x ∧
    w.cell? ⟨b, off + k * 3, none⟩ = some (.int .i64 x.key.space) ∧ w.cell? ⟨b, off + k * 3 + 1, none⟩ = some (.int .i64 x.key.page) ∧ w.cell? ⟨b, off + k * 3 + 2, none⟩ = some (.int .i64 x.frame) := by
  obtain ⟨b, off, x, e, hb, hx, hc⟩ := h.at_ hk
  exact ⟨b, off, x, e, hb, hx, hc 0 _ (by decide) rfl, hc 1 _ (by decide) rfl, hc 2 _ (by decide) rfl⟩

set_option maxHeartbeats 1000000 in
theorem eqNote_self_c (x : NoteD) (w : World) : Calls Tryd.prog 134 #[.agg #[.int .i64 x.key.space, .int .i64 x.key.page, .int .i64 x.frame], .agg #[.int .i64 x.key.space, .int .i64 x.key.page, .int .i64 x.frame]] w
   fun r w' => r = .returned (.bool true) ∧ Ex w w' := by
  obtain ⟨⟨a1, b1⟩, c1⟩ := x
  go_enter Tryd.func134, Tryd.ntmps134
  have hne0 : (a1 != a1) = false := by simp
  have hne1 : (b1 != b1) = false := by simp
  have hne2 : (c1 != c1) = false := by simp
  go_wp2_with fail
  refine name_calls ?_; intro v1 hv1
  have X1 : Hid (Chg (0) (0) w v1) := Lib.hid (by rw [hv1]; repeat' (first | with_reducible exact Chg.refl _ _ _ | with_reducible refine Chg.alloc ?_ _ | with_reducible refine Chg.drew ?_ | with_reducible refine Chg.set ?_ (by omega) _))
  have t1 : w.heap.size ≤ v1.heap.size := X1.out.size
  have Ev1 : Hid (Ex w v1) := Lib.hid ((Ex.refl w).chg X1.out (by omega))
  have KX : Hid (Blk v1 (w.heap.size) 162 [.int .i64 a1, .int .i64 b1, .int .i64 c1]) := Lib.hid (by rw [hv1]; exact (Blk.new _ _ _).alloc _)
  have lX : w.heap.size < v1.heap.size := KX.out.lt
  have KY : Hid (Blk v1 (w.heap.size + 1) 162 [.int .i64 a1, .int .i64 b1, .int .i64 c1]) := Lib.hid (by rw [hv1]; repeat' (first | with_reducible exact Blk.new_at _ _ _ (by simp) | with_reducible refine Blk.alloc ?_ _ | with_reducible refine Blk.drew ?_ | with_reducible refine Blk.far ?_ (by simp; omega) _))
  have lY : w.heap.size + 1 < v1.heap.size := KY.out.lt
  clear hv1
  refine (eqKey_self_c ⟨a1, b1⟩ _).mono ?_; rintro r w1 ⟨rfl, hb1⟩
  have Y1 : Hid (Chg 0 0 v1 w1) := Lib.hid (Chg.of_ex hb1)
  have s1 : v1.heap.size ≤ w1.heap.size := Y1.out.size
  have Ew1 : Hid (Ex w w1) := Lib.hid (Ev1.out.chg Y1.out (by omega))
  clear hb1
  replace KX : Hid (Blk w1 (w.heap.size) 162 [.int .i64 a1, .int .i64 b1, .int .i64 c1]) := Lib.hid (KX.out.chg Y1.out (by omega))
  replace KY : Hid (Blk w1 (w.heap.size + 1) 162 [.int .i64 a1, .int .i64 b1, .int .i64 c1]) := Lib.hid (KY.out.chg Y1.out (by omega))
  obtain ⟨qX0, qX1, qX2⟩ := KX.out.c3
  have jX := KX.out.lt
  obtain ⟨qY0, qY1, qY2⟩ := KY.out.c3
  have jY := KY.out.lt
  go_wp2
  go_ret
  exact ⟨rfl, Ew1.out⟩

set_option maxHeartbeats 1000000 in
theorem eqNoteS_self_c (A B : Option Addr) (c d : Nat) (xs : List NoteD) (w : World) (hx : Rd w A xs) (hy : Rd w B xs) (hn : xs.length ≤ 1048576) :
   Calls Tryd.prog 121 #[.slice A xs.length c, .slice B xs.length d] w
   fun r w' => r = .returned (.bool true) ∧ Ex w w' := by
  obtain ⟨n, hn1⟩ : ∃ n, n = xs.length := ⟨_, rfl⟩
  rw [← hn1]
  have hn' : n ≤ 1048576 := by omega
  have HX := Lib.hid hn1
  have H1 := Lib.hid hx
  have H2 := Lib.hid hy
  clear hn hn1 hx hy
  go_enter Tryd.func121, Tryd.ntmps121
  go_wp2
  go_loopw [5] (fun i wr => ∃ k : Nat, k ≤ n ∧ i = .int .i64 k ∧ Ex w wr) (fun i _ => n - (intOf i).toNat)
  case atStart => exact ⟨0, Nat.zero_le _, rfl, Ex.refl _⟩
  case round =>
    obtain ⟨k, hk, rfl, hbel⟩ := hrel
    have HB := Lib.hid hbel
    clear hbel
    by_cases hlt : k < n
    · obtain ⟨b1, o1, x, rfl, hb1, hxk, h0, h1, h2⟩ := Rd.note (H1.out.ex HB.out) (k := k) (by have := HX.out; omega)
      obtain ⟨b2, o2, y, rfl, hb2, hyk, g0, g1, g2⟩ := Rd.note (H2.out.ex HB.out) (k := k) (by have := HX.out; omega)
      have e : y = x := by rw [hxk] at hyk; injection hyk with e; exact e.symm
      subst e
      clear hxk hyk
      go_wp2_with fail
      go_still_tail 8, (by kernel_rfl)
      change wpList _ _ _ _ _ wr.drew
      go_wp2_with (go_at_call 134; go_must (refine (eqNote_self_c y _).mono ?_); rintro r w' ⟨rfl, hb⟩)
      go_roundw
      case rel => exact ⟨k + 1, by omega, by go_num, (HB.out.drew).trans hb⟩
      case measure => simp [intOf]; omega
    · go_wp2
      go_ret
      exact ⟨rfl, HB.out⟩

theorem infoMNote : (Tryd.prog.info? 162).map (fun i => (i.zero, i.size, i.bytes)) = some (some (.agg #[.int .i64 0, .int .i64 0, .int .i64 0]), 3, 24) := by kernel_rfl

def mkNote (k : Int) : NoteD := ⟨⟨k, k + 1⟩, k + 1 + 1⟩

set_option maxHeartbeats 1000000 in
theorem markNoteS_c (A : Option Addr) (B c : Nat) (xs : List NoteD) (k0 : Int) (w : World) (hx : Fr 162 w B A c xs) (hn : xs.length ≤ 1048576) (hk0 : 0 ≤ k0) (hk1 : k0 ≤ 1000000000) :
    Calls Tryd.prog 81 #[.slice A xs.length c, .int .i64 k0] w
    fun r w' => r = .returned (.int .i64 (k0 + 3 * xs.length)) ∧ Fr 162 w' B A c (markL mkNote 3 k0 xs.length) ∧ w.grownBy w' (rowOf A c) := by
  obtain ⟨n, hn1⟩ : ∃ n, n = xs.length := ⟨_, rfl⟩
  rw [← hn1]
  have hn' : n ≤ 1048576 := by omega
  have HX := Lib.hid hn1
  have H1 := Lib.hid hx
  clear hn hn1 hx
  go_enter Tryd.func81, Tryd.ntmps81
  go_wp2
  go_loopw [1, 5] (fun q i wr => ∃ (k : Nat) (zs : List NoteD), k ≤ n ∧ i = .int .i64 k ∧ q = .int .i64 (k0 + 3 * k) ∧ w.grownBy wr (rowOf A c) ∧ zs.length = n ∧ zs.take k = markL mkNote 3 k0 k ∧ Fr 162 wr B A c zs) (fun _ i _ => n - (intOf i).toNat)
  case atStart => exact ⟨0, xs, Nat.zero_le _, rfl, by go_num, grown_refl _ _, HX.out.symm, rfl, H1.out⟩
  case round =>
    obtain ⟨k, zs, hk, rfl, rfl, hgr, hzs, htk, hF⟩ := hrel
    have HG := Lib.hid hgr
    have HZ := Lib.hid hzs
    have HT := Lib.hid htk
    have HF := Lib.hid hF
    clear hgr hzs htk hF
    by_cases hlt : k < n
    · obtain ⟨g, rest, hA, hB, hb, hr⟩ := HF.out.open_ (k := k) (by have := HZ.out; omega)
      subst hA
      obtain ⟨z, hzk⟩ : ∃ z, zs[k]? = some z := ⟨_, List.getElem?_eq_getElem (by have := HZ.out; omega)⟩
      have HZK := Lib.hid hzk
      have HB := Lib.hid hb
      have HR := Lib.hid hr
      obtain ⟨hc0, hc1, hc2⟩ := hb.note hzk
      have hfz := hb.frozen
      have lgB := Blk.lt hb
      have hcp : 0 < c := by have := HF.out.le; have := HZ.out; omega
      replace HG := Lib.hid (rowOf_some hcp ▸ HG.out)
      clear hzk hb hr
      have hp0 : 0 ≤ k0 + 3 * (k : Int) := by omega
      have hp1 : k0 + 3 * (k : Int) ≤ 1010000000 := by omega
      obtain ⟨q, hq⟩ : ∃ q : Int, q = k0 + 3 * (k : Int) := ⟨_, rfl⟩
      rw [← hq] at hp0 hp1 ⊢
      have HQ := Lib.hid hq
      clear hq
      go_wp2
      go_roundw
      case rel =>
        refine ⟨k + 1, zs.set k (mkNote q), by omega, by go_num, by (have := HQ.out; first | go_num | (congr 1; omega)), by rw [rowOf_some hcp]; exact (grown_set (grown_set (grown_set HG.out _ _) _ _) _ _), by rw [List.length_set]; exact HZ.out, by rw [take_set_succ _ HZ.out hlt, markL_succ, HT.out, HQ.out], ?_⟩
        exact Fr.close (HB.out.set_note (mkNote q) (by have := HZ.out; omega)) hB (by rw [List.length_set]; exact HR.out) (by rw [List.length_set]; exact HF.out.le) HF.out.cap
      case measure => simp [intOf]; omega
    · obtain rfl : k = n := by omega
      go_wp2
      go_ret
      have e : zs = markL mkNote 3 k0 k := by rw [← HT.out, List.take_of_length_le (by have := HZ.out; omega)]
      exact ⟨rfl, e ▸ HF.out, HG.out⟩

set_option maxHeartbeats 1000000 in
theorem heldNoteS_c (A : Option Addr) (c n : Nat) (k0 : Int) (w : World) (hx : Rd w A (markL mkNote 3 k0 n)) (hn : n ≤ 1048576) (hk0 : 0 ≤ k0) (hk1 : k0 ≤ 1000000000) :
    Calls Tryd.prog 84 #[.slice A n c, .int .i64 k0] w
    fun r w' => r = .returned (.int .i64 (k0 + 3 * n)) ∧ w = w' := by
  have H1 := Lib.hid hx
  clear hx
  go_enter Tryd.func84, Tryd.ntmps84
  go_wp2
  go_loop [1, 5] (fun q i => ∃ (k : Nat), k ≤ n ∧ i = .int .i64 k ∧ q = .int .i64 (k0 + 3 * k)) (fun _ i => n - (intOf i).toNat)
  case atStart => exact ⟨0, Nat.zero_le _, rfl, by go_num⟩
  case round =>
    obtain ⟨k, hk, rfl, rfl⟩ := hrel
    by_cases hlt : k < n
    · obtain ⟨b1, o1, x, rfl, hb1, hxk, h0, h1, h2⟩ := Rd.note H1.out (k := k) (by rw [markL_length]; exact hlt)
      rw [markL_get _ _ _ hlt] at hxk
      injection hxk with hxk
      subst hxk
      have hp0 : 0 ≤ k0 + 3 * (k : Int) := by omega
      have hp1 : k0 + 3 * (k : Int) ≤ 1010000000 := by omega
      obtain ⟨q, hq⟩ : ∃ q : Int, q = k0 + 3 * (k : Int) := ⟨_, rfl⟩
      rw [← hq] at hp0 hp1 h0 h1 h2 ⊢
      have HQ := Lib.hid hq
      clear hq
      simp only [mkNote] at h0 h1 h2
      go_wp2
      go_round
      case rel => exact ⟨k + 1, by omega, by go_num, by (have := HQ.out; first | go_num | (congr 1; omega))⟩
      case measure => simp [intOf]; omega
    · obtain rfl : k = n := by omega
      go_wp2
      go_ret
      exact ⟨rfl, rfl⟩

theorem fieldsNote : Tryd.prog.underlying 162 = some (.struct (Tryd.prog.fieldsOf 162)) := by kernel_rfl
theorem heldNote_ : Tryd.prog.stoodInHeld 162 = false := by kernel_rfl
theorem guardNote : Tryd.prog.eqGuardType Tryd.prog.depth 162 = false := by kernel_rfl
theorem eqIn_note (x y : NoteD) (w : World) : (Op.equalIn 10000 162 (.agg #[.int .i64 x.key.space, .int .i64 x.key.page, .int .i64 x.frame]) (.agg #[.int .i64 y.key.space, .int .i64 y.key.page, .int .i64 y.frame])).run Tryd.prog w = .ok (eqB x y) w := by
  obtain ⟨⟨a1, b1⟩, c1⟩ := x
  obtain ⟨⟨a2, b2⟩, c2⟩ := y
  rw [run_equalIn_agg w 9999 _ _ _ fieldsNote heldNote_]
  simp [go_sem, Tryd.underlying162, Tryd.underlying97]
  by_cases k0 : a1 = a2 <;> by_cases k1 : b1 = b2 <;> by_cases k2 : c1 = c2 <;> simp [eqB, *]
theorem neq_note (x y : NoteD) (w : World) : (binOp .neq 162 (.agg #[.int .i64 x.key.space, .int .i64 x.key.page, .int .i64 x.frame]) (.agg #[.int .i64 y.key.space, .int .i64 y.key.page, .int .i64 y.frame])).run Tryd.prog w = .ok (.bool (!eqB x y)) w := by
  rw [run_neq_struct, eqIn_note]; rfl
theorem eql_note (x y : NoteD) (w : World) : (binOp .eql 162 (.agg #[.int .i64 x.key.space, .int .i64 x.key.page, .int .i64 x.frame]) (.agg #[.int .i64 y.key.space, .int .i64 y.key.page, .int .i64 y.frame])).run Tryd.prog w = .ok (.bool (eqB x y)) w := by
  rw [run_eql_struct, eqIn_note]; rfl

end Go.Proofs.YtkoegcalfibinaaDoor
