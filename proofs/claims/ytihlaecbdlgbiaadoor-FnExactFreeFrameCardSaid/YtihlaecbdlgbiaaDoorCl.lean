/- Contracts of the small functions over Line: comparing, copying, counting, marking. Written by a program of mine from one pattern. -/
import Derived.Test.YtihlaecbdlgbiaaDoorRows
import Derived.Test.YtihlaecbdlgbiaaDoorData
namespace Go.Proofs.YtihlaecbdlgbiaaDoor
open Go.ChangeShapes Go.WideShapes Go.ChangeAt Go.RowKit
open Rec (sz cs)
set_option linter.unusedVariables false
set_option maxRecDepth 100000

set_option maxHeartbeats 1000000 in
theorem eqLine_c (x y : LineD) (w : World) : Calls Tryd.prog 83 #[.agg #[.bool x.valid, .int .i64 x.tag, .int .i64 x.page, .int .i64 x.frame, .int .i64 x.rights, .bool x.wired], .agg #[.bool y.valid, .int .i64 y.tag, .int .i64 y.page, .int .i64 y.frame, .int .i64 y.rights, .bool y.wired]] w
   fun r w' => r = .returned (.bool (eqB x y)) ∧ Ex w w' := by
  obtain ⟨a1, b1, c1, d1, e1, f1⟩ := x
  obtain ⟨a2, b2, c2, d2, e2, f2⟩ := y
  go_enter Tryd.func83, Tryd.ntmps83
  go_wp2
  all_goals
    go_ret
    refine ⟨ret_bool ?_, ((Ex.refl _).alloc _).alloc _⟩
    simp only [eqB]; simp_all

theorem fieldsLine : Tryd.prog.underlying 74 = some (.struct (Tryd.prog.fieldsOf 74)) := by kernel_rfl
theorem heldLine_ : Tryd.prog.stoodInHeld 74 = false := by kernel_rfl
theorem guardLine : Tryd.prog.eqGuardType Tryd.prog.depth 74 = false := by kernel_rfl
theorem eqIn_line (x y : LineD) (w : World) : (Op.equalIn 10000 74 (.agg #[.bool x.valid, .int .i64 x.tag, .int .i64 x.page, .int .i64 x.frame, .int .i64 x.rights, .bool x.wired]) (.agg #[.bool y.valid, .int .i64 y.tag, .int .i64 y.page, .int .i64 y.frame, .int .i64 y.rights, .bool y.wired])).run Tryd.prog w = .ok (eqB x y) w := by
  obtain ⟨a1, b1, c1, d1, e1, f1⟩ := x
  obtain ⟨a2, b2, c2, d2, e2, f2⟩ := y
  rw [run_equalIn_agg w 9999 _ _ _ fieldsLine heldLine_]
  simp [go_sem, Tryd.underlying74]
  by_cases k0 : a1 = a2 <;> by_cases k1 : b1 = b2 <;> by_cases k2 : c1 = c2 <;> by_cases k3 : d1 = d2 <;> by_cases k4 : e1 = e2 <;> by_cases k5 : f1 = f2 <;> simp [eqB, *]
theorem neq_line (x y : LineD) (w : World) : (binOp .neq 74 (.agg #[.bool x.valid, .int .i64 x.tag, .int .i64 x.page, .int .i64 x.frame, .int .i64 x.rights, .bool x.wired]) (.agg #[.bool y.valid, .int .i64 y.tag, .int .i64 y.page, .int .i64 y.frame, .int .i64 y.rights, .bool y.wired])).run Tryd.prog w = .ok (.bool (!eqB x y)) w := by
  rw [run_neq_struct, eqIn_line]; rfl
theorem eql_line (x y : LineD) (w : World) : (binOp .eql 74 (.agg #[.bool x.valid, .int .i64 x.tag, .int .i64 x.page, .int .i64 x.frame, .int .i64 x.rights, .bool x.wired]) (.agg #[.bool y.valid, .int .i64 y.tag, .int .i64 y.page, .int .i64 y.frame, .int .i64 y.rights, .bool y.wired])).run Tryd.prog w = .ok (.bool (eqB x y)) w := by
  rw [run_eql_struct, eqIn_line]; rfl

set_option maxHeartbeats 1000000 in
theorem eqLineS_c (A B : Option Addr) (c d : Nat) (xs ys : List LineD) (w : World) (hx : Rd w A xs) (hy : Rd w B ys) (hn : xs.length ≤ 1048576) (hm : ys.length ≤ 1048576) :
   Calls Tryd.prog 73 #[.slice A xs.length c, .slice B ys.length d] w
   fun r w' => r = .returned (.bool (eqB xs ys)) ∧ Ex w w' := by
  by_cases hl : xs.length = ys.length
  · obtain ⟨n, hn1⟩ : ∃ n, n = xs.length := ⟨_, rfl⟩
    obtain ⟨m, hm1⟩ : ∃ m, m = ys.length := ⟨_, rfl⟩
    rw [← hn1, ← hm1]
    obtain rfl : n = m := by omega
    have hn' : n ≤ 1048576 := by omega
    have HX := Lib.hid hn1
    have HY := Lib.hid hm1
    have H1 := Lib.hid hx
    have H2 := Lib.hid hy
    clear hn hm hn1 hm1 hx hy hl
    go_enter Tryd.func73, Tryd.ntmps73
    go_wp2
    go_loopw [5] (fun i wr => ∃ k : Nat, k ≤ n ∧ i = .int .i64 k ∧ Ex w wr ∧ xs.take k = ys.take k) (fun i _ => n - (intOf i).toNat)
    case atStart => exact ⟨0, Nat.zero_le _, rfl, Ex.refl _, rfl⟩
    case round =>
      obtain ⟨k, hk, rfl, hbel, htk⟩ := hrel
      have HT := Lib.hid htk
      clear htk
      by_cases hlt : k < n
      · obtain ⟨b1, o1, x, rfl, hb1, hxk, h0, h1, h2, h3, h4, h5⟩ := Rd.line (H1.out.ex hbel) (k := k) (by have := HX.out; omega)
        obtain ⟨b2, o2, y, rfl, hb2, hyk, g0, g1, g2, g3, g4, g5⟩ := Rd.line (H2.out.ex hbel) (k := k) (by have := HY.out; omega)
        have HXK := Lib.hid hxk
        have HYK := Lib.hid hyk
        clear hxk hyk
        cases hxy : eqB x y
        · have hne : x ≠ y := eqB_false.1 hxy
          go_wp2_with fail
          go_still_tail 8, (by kernel_rfl)
          change wpList _ _ _ _ _ wr.drew
          go_wp2_with (go_at_call 83; go_must (refine (eqLine_c x y _).mono ?_); rintro r w' ⟨rfl, hb⟩)
          go_ret
          exact ⟨ret_bool (by rw [eq_comm, eqB_false]; exact ne_of_elem HXK.out HYK.out hne), (hbel.drew).trans hb⟩
        · have hxye := eqB_true.1 hxy
          have HE := Lib.hid hxye
          clear hxye
          go_wp2_with fail
          go_still_tail 8, (by kernel_rfl)
          change wpList _ _ _ _ _ wr.drew
          go_wp2_with (go_at_call 83; go_must (refine (eqLine_c x y _).mono ?_); rintro r w' ⟨rfl, hb⟩)
          go_roundw
          case rel => exact ⟨k + 1, by omega, by go_num, (hbel.drew).trans hb, (take_eq_step HXK.out HYK.out).2 ⟨HT.out, HE.out⟩⟩
          case measure => simp [intOf]; omega
      · go_wp2
        go_ret
        exact ⟨ret_bool (by rw [eq_comm, eqB_true]; exact eq_of_take HX.out.symm HY.out.symm (by rw [show n = k from by omega]; exact HT.out)), hbel⟩
  · have hne : ((xs.length : Int) != (ys.length : Int)) = true := by simp; omega
    go_enter Tryd.func73, Tryd.ntmps73
    go_wp2
    go_ret
    exact ⟨ret_bool (by rw [eq_comm, eqB_false]; intro h; exact hl (by rw [h])), Ex.refl _⟩

set_option maxHeartbeats 400000 in
theorem szLineS_c (A : Option Addr) (n c : Nat) (l : Int) (w : World) (h0 : 0 ≤ l) (h1 : l ≤ 1048576) (hn : n ≤ maxLen) :
    Calls Tryd.prog 46 #[.slice A n c, .int .i64 l] w fun r w' => r = .returned (.int .i64 (szI l n)) ∧ w = w' := by
  unfold maxLen at hn
  by_cases hlt : l < n
  · have hd : l - n < 0 := by omega
    have HF := Lib.hid (szI_neg hlt)
    go_enter Tryd.func46, Tryd.ntmps46
    go_wp2
    go_ret
    exact ⟨ret_int HF.out.symm, rfl⟩
  · have hd : ¬ l - n < 0 := by omega
    have HF := Lib.hid (szI_pos hlt)
    go_enter Tryd.func46, Tryd.ntmps46
    go_wp2
    go_ret
    exact ⟨ret_int HF.out.symm, rfl⟩

set_option maxHeartbeats 1000000 in
theorem toLine_c (x : LineD) (w : World) :
    Calls Tryd.prog 79 #[.agg #[.bool x.valid, .int .i64 x.tag, .int .i64 x.page, .int .i64 x.frame, .int .i64 x.rights, .bool x.wired]] w fun r w' => r = .returned (.agg #[.bool x.valid, .int .i64 x.tag, .int .i64 x.page, .int .i64 x.frame, .int .i64 x.rights, .bool x.wired]) ∧ Ex w w' := by
  obtain ⟨a1, b1, c1, d1, e1, f1⟩ := x
  go_enter Tryd.func79, Tryd.ntmps79
  go_wp2
  exact bodyPost_ret (v := .agg #[.bool a1, .int .i64 b1, .int .i64 c1, .int .i64 d1, .int .i64 e1, .bool f1]) (by simp [results, Tryd.results79, go_sem]) rfl ⟨rfl, (((Ex.refl _).alloc _).alloc _).alloc _⟩

theorem infoLine : (Tryd.prog.info? 74).map (fun i => (i.zero, i.size, i.bytes)) = some (some (.agg #[.bool false, .int .i64 0, .int .i64 0, .int .i64 0, .int .i64 0, .bool false]), 6, 48) := by kernel_rfl

set_option maxHeartbeats 1000000 in
theorem toLineS_c (A : Option Addr) (c : Nat) (xs : List LineD) (w : World) (hx : Rd w A xs) (hn : xs.length ≤ 1048576) :
    Calls Tryd.prog 59 #[.slice A xs.length c] w
    fun r w' => ∃ A' c', r = .returned (.slice A' xs.length c') ∧ Fr 74 w' w.heap.size A' c' xs ∧ Ex w w' := by
  obtain ⟨n, hn1⟩ : ∃ n, n = xs.length := ⟨_, rfl⟩
  rw [← hn1]
  have hn' : n ≤ 1048576 := by omega
  have hmk := make_rec (P := Tryd.prog) (α := LineD) 39 74 48 ⟨false, 0, 0, 0, 0, false⟩ _ Tryd.underlying39 infoLine rfl n (by omega) (by omega)
  have HX := Lib.hid hn1
  have H1 := Lib.hid hx
  clear hn hn1 hx
  go_enter Tryd.func59, Tryd.ntmps59
  go_wp2
  clear hmk
  go_loopw [4] (fun i wr => ∃ (k : Nat) (zs : List LineD), k ≤ n ∧ i = .int .i64 k ∧ Ex w wr ∧ zs.length = n ∧ zs.take k = xs.take k ∧ Bk 74 wr w.heap.size zs []) (fun i _ => n - (intOf i).toNat)
  case atStart => exact ⟨0, List.replicate n ⟨false, 0, 0, 0, 0, false⟩, Nat.zero_le _, rfl, (Ex.refl _).alloc _, List.length_replicate, rfl, Bk.new _ _ _⟩
  case round =>
    obtain ⟨k, zs, hk, rfl, hbel, hzs, htk, hB⟩ := hrel
    have HT := Lib.hid htk
    have HZ := Lib.hid hzs
    have HB := Lib.hid hB
    clear htk hzs hB
    by_cases hlt : k < n
    · obtain ⟨b1, o1, x, rfl, hb1, hxk, h0, h1, h2, h3, h4, h5⟩ := Rd.line (H1.out.ex hbel) (k := k) (by have := HX.out; omega)
      obtain ⟨z, hzk⟩ : ∃ z, zs[k]? = some z := ⟨_, List.getElem?_eq_getElem (by have := HZ.out; omega)⟩
      have HXK := Lib.hid hxk
      have HZK := Lib.hid hzk
      clear hxk hzk
      go_wp2_with (go_at_call 79; go_must (refine (toLine_c x _).mono ?_); rintro r w2 ⟨rfl, hb⟩; have hB2 := Lib.hid (HB.out.ex hb); obtain ⟨hc0, hc1, hc2, hc3, hc4, hc5⟩ := (HB.out.ex hb).line HZK.out; have hfz := Bk.frozen (HB.out.ex hb))
      go_roundw
      case rel => exact ⟨k + 1, zs.set k x, by omega, by go_num, (((((((hbel.trans hb).set (Nat.le_refl _) _).set (Nat.le_refl _) _).set (Nat.le_refl _) _).set (Nat.le_refl _) _).set (Nat.le_refl _) _).set (Nat.le_refl _) _), by rw [List.length_set]; exact HZ.out, (by rw [List.take_succ_eq_append_getElem (by rw [List.length_set]; have := HZ.out; omega), List.getElem_set_self, List.take_set_of_le (Nat.le_refl _), HT.out, take_succ_of HXK.out]), hB2.out.set_line x (by have := HZ.out; omega)⟩
      case measure => simp [intOf]; omega
    · go_wp2
      go_ret
      have e : zs = xs := eq_of_take HZ.out HX.out.symm (by rw [show n = k from by omega]; exact HT.out)
      subst e
      exact ⟨_, _, rfl, ⟨by have := HX.out; omega, by simp only [maxLen]; omega, .inr ⟨_, [], rfl, Nat.le_refl _, HB.out, by rw [HX.out, Nat.sub_self, Nat.zero_mul]; exact Nat.zero_le _⟩⟩, hbel⟩

def mkLine (k : Int) : LineD := ⟨(k) % 3 == 0, k + 1, k + 1 + 1, k + 1 + 1 + 1, k + 1 + 1 + 1 + 1, (k + 1 + 1 + 1 + 1 + 1) % 3 == 0⟩

end Go.Proofs.YtihlaecbdlgbiaaDoor
