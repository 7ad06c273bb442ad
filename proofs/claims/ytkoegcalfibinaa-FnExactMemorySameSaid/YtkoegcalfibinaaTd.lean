/- Contracts: slices.Equal over tags' owners; TagsSame and NewTags, the program's and the reference's. -/
import Derived.Test.YtkoegcalfibinaaTc
import Derived.Test.YtkoegcalfibinaaEq
namespace Go.Proofs.Ytkoegcalfibinaa
open Go.ChangeShapes Go.WideShapes Go.ChangeAt Go.RowKit
open Rec (sz cs)
set_option linter.unusedVariables false
set_option maxRecDepth 100000

set_option maxHeartbeats 400000 in
theorem equalOwn_c (A B : Option Addr) (c d : Nat) (xs ys : List OwnD) (w : World) (hx : Rd w A xs) (hy : Rd w B ys) (hn : xs.length ≤ 1048576) (hm : ys.length ≤ 1048576) :
   Calls Try.prog 63 #[.slice A xs.length c, .slice B ys.length d] w
   fun r w' => r = .returned (.bool (eqB xs ys)) ∧ Ex w w' := by
  by_cases hl : xs.length = ys.length
  · obtain ⟨n, hn1⟩ : ∃ n, n = xs.length := ⟨_, rfl⟩
    obtain ⟨m, hm1⟩ : ∃ m, m = ys.length := ⟨_, rfl⟩
    rw [← hn1, ← hm1]
    obtain rfl : n = m := by omega
    have hn' : n ≤ 1048576 := by omega
    have HX := Lib.hid hn1
    have HY := Lib.hid hm1
    have H1 := Lib.hid hx
    have H2 := Lib.hid hy
    clear hn hm hn1 hm1 hx hy hl
    go_enter Try.func63, Try.ntmps63
    go_wp2
    go_loopw [13] (fun i wr => ∃ k : Nat, k ≤ n ∧ i = .int .i64 k ∧ Ex w wr ∧ xs.take k = ys.take k) (fun i _ => n - (intOf i).toNat)
    case atStart => exact ⟨0, Nat.zero_le _, rfl, Ex.refl _, rfl⟩
    case round =>
      obtain ⟨k, hk, rfl, hbel, htk⟩ := hrel
      have HT := Lib.hid htk
      clear htk
      by_cases hlt : k < n
      · obtain ⟨b1, o1, x, rfl, hb1, hxk, h1, h2⟩ := Rd.own (H1.out.ex hbel) (k := k) (by have := HX.out; omega)
        obtain ⟨b2, o2, y, rfl, hb2, hyk, h3, h4⟩ := Rd.own (H2.out.ex hbel) (k := k) (by have := HY.out; omega)
        have HXK := Lib.hid hxk
        have HYK := Lib.hid hyk
        clear hxk hyk
        have hneq := neq_own x y
        have hgd := guardOwn
        cases hxy : eqB x y
        · have hne : x ≠ y := eqB_false.1 hxy
          go_wp2_with fail
          go_quiet (fail)
          clear hneq hgd
          go_wp2
          go_ret
          exact ⟨ret_bool (by rw [eq_comm, eqB_false]; exact ne_of_elem HXK.out HYK.out hne), hbel.drewN _⟩
        · have HE := Lib.hid (eqB_true.1 hxy)
          go_wp2_with fail
          go_quiet (fail)
          clear hneq hgd
          go_wp2
          go_roundw
          case rel => exact ⟨k + 1, by omega, by go_num, hbel.drewN _, (take_eq_step HXK.out HYK.out).2 ⟨HT.out, HE.out⟩⟩
          case measure => simp [intOf]; omega
      · go_wp2
        go_ret
        exact ⟨ret_bool (by rw [eq_comm, eqB_true]; exact eq_of_take HX.out.symm HY.out.symm (by rw [show n = k from by omega]; exact HT.out)), hbel⟩
  · have hne : ((xs.length : Int) != (ys.length : Int)) = true := by simp; omega
    go_enter Try.func63, Try.ntmps63
    go_wp2
    go_ret
    exact ⟨ret_bool (by rw [eq_comm, eqB_false]; intro h; exact hl (by rw [h])), Ex.refl _⟩

set_option maxHeartbeats 400000 in
theorem tagsSameI_c (x y : TagsD) (A B : Option Addr) (c d : Nat) (w : World) (hx : Rd w A x.owns) (hy : Rd w B y.owns) (hn : x.owns.length ≤ 1048576) (hm : y.owns.length ≤ 1048576) :
    Calls Try.prog 40 #[.agg #[.int .i64 x.count, .int .i64 x.next, .int .i64 x.round, .slice A x.owns.length c], .agg #[.int .i64 y.count, .int .i64 y.next, .int .i64 y.round, .slice B y.owns.length d]] w fun r w' => r = .returned (.bool (eqB x y)) ∧ Ex w w' := by
  have HE := Lib.hid (tags_eq x y)
  obtain ⟨a1, b1, d1, xs⟩ := x
  obtain ⟨a2, b2, d2, ys⟩ := y
  simp only at HE hx hy hn hm ⊢
  have H1 := Lib.hid hx
  have H2 := Lib.hid hy
  have H3 := Lib.hid hn
  have H4 := Lib.hid hm
  clear hx hy hn hm
  cases h1 : (a1 == a2)
  · go_enter Try.func40, Try.ntmps40
    go_wp2
    go_ret
    exact ⟨ret_bool (by rw [eq_comm, eqB_false, Ne, HE.out]; simp_all), ((Ex.refl _).alloc _).alloc _⟩
  cases h2 : (b1 == b2)
  · go_enter Try.func40, Try.ntmps40
    go_wp2
    go_ret
    exact ⟨ret_bool (by rw [eq_comm, eqB_false, Ne, HE.out]; simp_all), ((Ex.refl _).alloc _).alloc _⟩
  cases h3 : (d1 == d2)
  · go_enter Try.func40, Try.ntmps40
    go_wp2
    go_ret
    exact ⟨ret_bool (by rw [eq_comm, eqB_false, Ne, HE.out]; simp_all), ((Ex.refl _).alloc _).alloc _⟩
  have e : eqB (⟨a1, b1, d1, xs⟩ : TagsD) ⟨a2, b2, d2, ys⟩ = eqB xs ys := by
    rw [Bool.eq_iff_iff, eqB_true, eqB_true, HE.out]; simp_all
  rw [e]
  clear e HE
  go_enter Try.func40, Try.ntmps40
  go_wp2_with (go_at_call 63; go_must (refine (equalOwn_c A B c d xs ys _ ((H1.out.alloc _).alloc _) ((H2.out.alloc _).alloc _) H3.out H4.out).mono ?_); rintro r w2 ⟨rfl, hb⟩; have HEX := Lib.hid (((Ex.refl w).alloc _).alloc _ |>.trans hb); clear hb)
  go_ret
  exact ⟨rfl, HEX.out⟩

set_option maxHeartbeats 1000000 in
theorem tagsSameS_c (x y : TagsD) (A B : Option Addr) (c d : Nat) (w : World) (hx : Rd w A x.owns) (hy : Rd w B y.owns) (hn : x.owns.length ≤ 1048576) (hm : y.owns.length ≤ 1048576) :
    Calls Try.prog 36 #[.agg #[.int .i64 x.count, .int .i64 x.next, .int .i64 x.round, .slice A x.owns.length c], .agg #[.int .i64 y.count, .int .i64 y.next, .int .i64 y.round, .slice B y.owns.length d]] w fun r w' => r = .returned (.bool (eqB x y)) ∧ Ex w w' := by
  have HE := Lib.hid (tags_eq x y)
  obtain ⟨a1, b1, d1, xs⟩ := x
  obtain ⟨a2, b2, d2, ys⟩ := y
  simp only at HE hx hy hn hm ⊢
  cases h1 : (a1 != a2)
  rotate_left
  · go_enter Try.func36, Try.ntmps36
    go_wp2
    go_ret
    exact ⟨ret_bool (by rw [eq_comm, eqB_false, Ne, HE.out]; simp_all), ((Ex.refl _).alloc _).alloc _⟩
  cases h2 : (b1 != b2)
  rotate_left
  · go_enter Try.func36, Try.ntmps36
    go_wp2
    go_ret
    exact ⟨ret_bool (by rw [eq_comm, eqB_false, Ne, HE.out]; simp_all), ((Ex.refl _).alloc _).alloc _⟩
  cases h3 : (d1 != d2)
  rotate_left
  · go_enter Try.func36, Try.ntmps36
    go_wp2
    go_ret
    exact ⟨ret_bool (by rw [eq_comm, eqB_false, Ne, HE.out]; simp_all), ((Ex.refl _).alloc _).alloc _⟩
  cases h4 : ((xs.length : Int) != (ys.length : Int))
  rotate_left
  · go_enter Try.func36, Try.ntmps36
    go_wp2
    go_ret
    exact ⟨ret_bool (by rw [eq_comm, eqB_false, Ne, HE.out]; intro hh; rw [hh.2.2.2] at h4; simp at h4), ((Ex.refl _).alloc _).alloc _⟩
  have e : eqB (⟨a1, b1, d1, xs⟩ : TagsD) ⟨a2, b2, d2, ys⟩ = eqB xs ys := by
    rw [Bool.eq_iff_iff, eqB_true, eqB_true, HE.out]; simp_all
  rw [e]
  clear e HE
  have hl : xs.length = ys.length := by simp at h4; omega
  clear h4
  obtain ⟨n, hn1⟩ : ∃ n, n = xs.length := ⟨_, rfl⟩
  obtain ⟨m, hm1⟩ : ∃ m, m = ys.length := ⟨_, rfl⟩
  rw [← hn1, ← hm1]
  obtain rfl : n = m := by omega
  have hn' : n ≤ 1048576 := by omega
  have HX := Lib.hid hn1
  have HY := Lib.hid hm1
  have H1 := Lib.hid hx
  have H2 := Lib.hid hy
  clear hn hm hn1 hm1 hx hy hl
  go_enter Try.func36, Try.ntmps36
  go_wp2
  clear h1 h2 h3
  go_loopw [5] (fun i wr => ∃ k : Nat, k ≤ n ∧ i = .int .i64 k ∧ Ex ((w.alloc (.cells #[.int .i64 a1, .int .i64 b1, .int .i64 d1, .slice A n c] 54)).alloc (.cells #[.int .i64 a2, .int .i64 b2, .int .i64 d2, .slice B n d] 54)) wr ∧ xs.take k = ys.take k) (fun i _ => n - (intOf i).toNat)
  case atStart => exact ⟨0, Nat.zero_le _, rfl, Ex.refl _, rfl⟩
  case round =>
    obtain ⟨k, hk, rfl, hbel, htk⟩ := hrel
    obtain ⟨hbc, hbf⟩ := ex_rules hbel
    have HT := Lib.hid htk
    have HBEL := Lib.hid hbel
    clear htk hbel hbf
    by_cases hlt : k < n
    · obtain ⟨b1, o1, x, rfl, hb1, hxk, h1, h2⟩ := Rd.own (((H1.out.alloc _).alloc _).ex HBEL.out) (k := k) (by have := HX.out; omega)
      obtain ⟨b2, o2, y, rfl, hb2, hyk, h3, h4⟩ := Rd.own (((H2.out.alloc _).alloc _).ex HBEL.out) (k := k) (by have := HY.out; omega)
      have HXK := Lib.hid hxk
      have HYK := Lib.hid hyk
      clear hxk hyk
      have hneq := neq_own x y
      have hgd := guardOwn
      cases hxy : eqB x y
      · have hne : x ≠ y := eqB_false.1 hxy
        go_wp2_with fail
        go_quiet (fail)
        clear hneq hgd
        go_wp2
        go_ret
        exact ⟨ret_bool (by rw [eq_comm, eqB_false]; exact ne_of_elem HXK.out HYK.out hne), ((((Ex.refl _).alloc _).alloc _).trans HBEL.out).drewN _⟩
      · have HE := Lib.hid (eqB_true.1 hxy)
        go_wp2_with fail
        go_quiet (fail)
        clear hneq hgd
        go_wp2
        go_roundw
        case rel => exact ⟨k + 1, by omega, by go_num, HBEL.out.drewN _, (take_eq_step HXK.out HYK.out).2 ⟨HT.out, HE.out⟩⟩
        case measure => simp [intOf]; omega
    · go_wp2
      go_ret
      exact ⟨ret_bool (by rw [eq_comm, eqB_true]; exact eq_of_take HX.out.symm HY.out.symm (by rw [show n = k from by omega]; exact HT.out)), (((Ex.refl _).alloc _).alloc _).trans HBEL.out⟩
end Go.Proofs.Ytkoegcalfibinaa
