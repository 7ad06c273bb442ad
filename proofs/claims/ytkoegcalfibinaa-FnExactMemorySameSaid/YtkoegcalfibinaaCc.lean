/- Contracts over whole caches: comparing, copying, counting, marking, making. -/
import Derived.Test.YtkoegcalfibinaaCl
namespace Go.Proofs.Ytkoegcalfibinaa
open Go.ChangeShapes Go.WideShapes Go.ChangeAt Go.RowKit
open Rec (sz cs)
set_option linter.unusedVariables false
set_option maxRecDepth 100000

set_option maxHeartbeats 400000 in
theorem szCache_c (t : CacheD) (A : Option Addr) (c : Nat) (l : Int) (w : World) (h0 : 0 ≤ l) (h1 : l ≤ 1048576) (hn : t.lines.length ≤ maxLen) :
    Calls Try.prog 33 #[.agg #[.slice A t.lines.length c, .int .i64 t.hand], .int .i64 l] w fun r w' => r = .returned (.int .i64 (szI l t.lines.length)) ∧ Ex w w' := by
  obtain ⟨os, b⟩ := t
  generalize os.length = n at *
  by_cases hlt : l < n
  · have HF := Lib.hid (szI_neg hlt)
    go_enter Try.func33, Try.ntmps33
    go_wp2_with (go_at_call 58; go_must (refine (szLineS_c _ _ _ _ _ h0 h1 hn).mono ?_); rw [HF.out]; rintro r w2 ⟨rfl, rfl⟩)
    go_ret
    exact ⟨ret_int HF.out.symm, (Ex.refl _).alloc _⟩
  · have HF := Lib.hid (szI_pos hlt)
    have h2 : 0 ≤ l - n := by omega
    go_enter Try.func33, Try.ntmps33
    go_wp2_with (go_at_call 58; go_must (refine (szLineS_c _ _ _ _ _ h0 h1 hn).mono ?_); rw [HF.out]; rintro r w2 ⟨rfl, rfl⟩)
    go_ret
    exact ⟨ret_int HF.out.symm, (Ex.refl _).alloc _⟩

theorem cache_eq (x y : CacheD) : x = y ↔ x.lines = y.lines ∧ x.hand = y.hand := by
  cases x; cases y; simp

set_option maxHeartbeats 400000 in
theorem eqCache_c (x y : CacheD) (A B : Option Addr) (c d : Nat) (w : World) (hx : Rd w A x.lines) (hy : Rd w B y.lines) (hn : x.lines.length ≤ 1048576) (hm : y.lines.length ≤ 1048576) :
    Calls Try.prog 41 #[.agg #[.slice A x.lines.length c, .int .i64 x.hand], .agg #[.slice B y.lines.length d, .int .i64 y.hand]] w fun r w' => r = .returned (.bool (eqB x y)) ∧ Ex w w' := by
  have HE := Lib.hid (cache_eq x y)
  obtain ⟨xs, a1⟩ := x
  obtain ⟨ys, a2⟩ := y
  simp only at HE hx hy hn hm ⊢
  have H1 := Lib.hid hx
  have H2 := Lib.hid hy
  have H3 := Lib.hid hn
  have H4 := Lib.hid hm
  clear hx hy hn hm
  cases e4 : eqB xs ys
  all_goals
    go_enter Try.func41, Try.ntmps41
    go_wp2_with (go_at_call 64; go_must (refine (eqLineS_c A B c d xs ys _ ((H1.out.alloc _).alloc _) ((H2.out.alloc _).alloc _) H3.out H4.out).mono ?_); rw [e4]; rintro r w2 ⟨rfl, hb⟩; obtain ⟨hcc, hzz⟩ := ex_rules hb; have HEX := Lib.hid (((Ex.refl w).alloc _).alloc _ |>.trans hb); clear hb)
    all_goals go_ret
    all_goals first
      | exact ⟨ret_bool (by rw [eq_comm, eqB_false, Ne, HE.out]; simp_all [eqB]), HEX.out⟩
      | exact ⟨ret_bool (by rw [eq_comm, eqB_true, HE.out]; simp_all [eqB]), HEX.out⟩

theorem eqCache_self_c (x : CacheD) (A B : Option Addr) (c d : Nat) (w : World) (hx : Rd w A x.lines) (hy : Rd w B x.lines) (hn : x.lines.length ≤ 1048576) :
    Calls Try.prog 41 #[.agg #[.slice A x.lines.length c, .int .i64 x.hand], .agg #[.slice B x.lines.length d, .int .i64 x.hand]] w fun r w' => r = .returned (.bool true) ∧ Ex w w' :=
  (eqCache_c x x A B c d w hx hy hn hn).mono fun _ _ ⟨h1, h2⟩ => ⟨by rw [h1, eqB_self], h2⟩

set_option maxHeartbeats 400000 in
theorem toCache_c (t : CacheD) (A : Option Addr) (c : Nat) (w : World) (hx : Rd w A t.lines) (hn : t.lines.length ≤ 1048576) :
    Calls Try.prog 37 #[.agg #[.slice A t.lines.length c, .int .i64 t.hand]] w
    fun r w' => ∃ A' c', r = .returned (.agg #[.slice A' t.lines.length c', .int .i64 t.hand]) ∧ Fr 109 w' w.heap.size A' c' t.lines ∧ Ex w w' := by
  obtain ⟨xs, a1⟩ := t
  simp only at hx hn ⊢
  have H1 := Lib.hid hx
  have H3 := Lib.hid hn
  clear hx hn
  go_enter Try.func37, Try.ntmps37
  go_wp2_with (go_at_call 60; go_must (refine (toLineS_c A c xs _ (((H1.out.alloc _).alloc _).alloc _) H3.out).mono ?_); rintro r w2 ⟨A', c', rfl, hf, hb⟩; have HF := Lib.hid hf; obtain ⟨hbc, hbf⟩ := ex_rules hb; have hsz := hb.size; have HEX := Lib.hid (((Ex.refl w).alloc _).alloc _ |>.alloc _ |>.trans hb); clear hb hf)
  exact bodyPost_ret (v := .agg #[.slice A' xs.length c', .int .i64 a1]) (by simp [results, Try.results37, go_sem, hbc]) rfl
    ⟨A', c', rfl, Fr.mono ((((HF.out.set_below (by simp) _).set_below (by simp) _).set_below (by simp) _).set_below (by simp) _) (by simp; omega),
      (((HEX.out.set (by simp; omega) _).set (by simp; omega) _).set (by simp) _).set (by simp) _⟩

set_option maxHeartbeats 400000 in
theorem cacheSameI_c (x y : CacheD) (A B : Option Addr) (c d : Nat) (w : World) (hx : Rd w A x.lines) (hy : Rd w B y.lines) (hn : x.lines.length ≤ 1048576) (hm : y.lines.length ≤ 1048576) :
    Calls Try.prog 39 #[.agg #[.slice A x.lines.length c, .int .i64 x.hand], .agg #[.slice B y.lines.length d, .int .i64 y.hand]] w fun r w' => r = .returned (.bool (eqB x y)) ∧ Ex w w' := by
  have HE := Lib.hid (cache_eq x y)
  obtain ⟨xs, a1⟩ := x
  obtain ⟨ys, a2⟩ := y
  simp only at HE hx hy hn hm ⊢
  have H1 := Lib.hid hx
  have H2 := Lib.hid hy
  have H3 := Lib.hid hn
  have H4 := Lib.hid hm
  clear hx hy hn hm
  cases h1 : (a1 == a2)
  · go_enter Try.func39, Try.ntmps39
    go_wp2
    go_ret
    exact ⟨ret_bool (by rw [eq_comm, eqB_false, Ne, HE.out]; simp_all), ((Ex.refl _).alloc _).alloc _⟩
  have e : eqB (⟨xs, a1⟩ : CacheD) ⟨ys, a2⟩ = eqB xs ys := by
    rw [Bool.eq_iff_iff, eqB_true, eqB_true, HE.out]; simp_all
  rw [e]
  clear e HE
  go_enter Try.func39, Try.ntmps39
  go_wp2_with (go_at_call 62; go_must (refine (equalLine_c A B c d xs ys _ ((H1.out.alloc _).alloc _) ((H2.out.alloc _).alloc _) H3.out H4.out).mono ?_); rintro r w2 ⟨rfl, hb⟩; have HEX := Lib.hid (((Ex.refl w).alloc _).alloc _ |>.trans hb); clear hb)
  go_ret
  exact ⟨rfl, HEX.out⟩

set_option maxHeartbeats 1000000 in
theorem cacheSameS_c (x y : CacheD) (A B : Option Addr) (c d : Nat) (w : World) (hx : Rd w A x.lines) (hy : Rd w B y.lines) (hn : x.lines.length ≤ 1048576) (hm : y.lines.length ≤ 1048576) :
    Calls Try.prog 35 #[.agg #[.slice A x.lines.length c, .int .i64 x.hand], .agg #[.slice B y.lines.length d, .int .i64 y.hand]] w fun r w' => r = .returned (.bool (eqB x y)) ∧ Ex w w' := by
  have HE := Lib.hid (cache_eq x y)
  obtain ⟨xs, a1⟩ := x
  obtain ⟨ys, a2⟩ := y
  simp only at HE hx hy hn hm ⊢
  cases h4 : ((xs.length : Int) != (ys.length : Int))
  rotate_left
  · go_enter Try.func35, Try.ntmps35
    go_wp2
    go_ret
    exact ⟨ret_bool (by rw [eq_comm, eqB_false, Ne, HE.out]; intro hh; rw [hh.1] at h4; simp at h4), ((Ex.refl _).alloc _).alloc _⟩
  cases h1 : (a1 != a2)
  rotate_left
  · go_enter Try.func35, Try.ntmps35
    go_wp2
    go_ret
    exact ⟨ret_bool (by rw [eq_comm, eqB_false, Ne, HE.out]; simp_all), ((Ex.refl _).alloc _).alloc _⟩
  have e : eqB (⟨xs, a1⟩ : CacheD) ⟨ys, a2⟩ = eqB xs ys := by
    rw [Bool.eq_iff_iff, eqB_true, eqB_true, HE.out]; simp_all
  rw [e]
  clear e HE
  have hl : xs.length = ys.length := by simp at h4; omega
  clear h4
  obtain ⟨n, hn1⟩ : ∃ n, n = xs.length := ⟨_, rfl⟩
  obtain ⟨m, hm1⟩ : ∃ m, m = ys.length := ⟨_, rfl⟩
  rw [← hn1, ← hm1]
  obtain rfl : n = m := by omega
  have hn' : n ≤ 1048576 := by omega
  have HX := Lib.hid hn1
  have HY := Lib.hid hm1
  have H1 := Lib.hid hx
  have H2 := Lib.hid hy
  clear hn hm hn1 hm1 hx hy hl
  go_enter Try.func35, Try.ntmps35
  go_wp2
  clear h1
  go_loopw [5] (fun i wr => ∃ k : Nat, k ≤ n ∧ i = .int .i64 k ∧ Ex ((w.alloc (.cells #[.slice A n c, .int .i64 a1] 51)).alloc (.cells #[.slice B n d, .int .i64 a2] 51)) wr ∧ xs.take k = ys.take k) (fun i _ => n - (intOf i).toNat)
  case atStart => exact ⟨0, Nat.zero_le _, rfl, Ex.refl _, rfl⟩
  case round =>
    obtain ⟨k, hk, rfl, hbel, htk⟩ := hrel
    obtain ⟨hbc, hbf⟩ := ex_rules hbel
    have HT := Lib.hid htk
    have HBEL := Lib.hid hbel
    clear htk hbel hbf
    by_cases hlt : k < n
    · obtain ⟨b1, o1, x, rfl, hb1, hxk, h0, h1, h2, h3, h4, h5⟩ := Rd.line (((H1.out.alloc _).alloc _).ex HBEL.out) (k := k) (by have := HX.out; omega)
      obtain ⟨b2, o2, y, rfl, hb2, hyk, g0, g1, g2, g3, g4, g5⟩ := Rd.line (((H2.out.alloc _).alloc _).ex HBEL.out) (k := k) (by have := HY.out; omega)
      have HXK := Lib.hid hxk
      have HYK := Lib.hid hyk
      clear hxk hyk
      have hneq := neq_line x y
      have hgd := guardLine
      cases hxy : eqB x y
      · have hne : x ≠ y := eqB_false.1 hxy
        go_wp2_with fail
        go_quiet (fail)
        clear hneq hgd
        go_wp2
        go_ret
        exact ⟨ret_bool (by rw [eq_comm, eqB_false]; exact ne_of_elem HXK.out HYK.out hne), ((((Ex.refl _).alloc _).alloc _).trans HBEL.out).drewN _⟩
      · have HE := Lib.hid (eqB_true.1 hxy)
        go_wp2_with fail
        go_quiet (fail)
        clear hneq hgd
        go_wp2
        go_roundw
        case rel => exact ⟨k + 1, by omega, by go_num, HBEL.out.drewN _, (take_eq_step HXK.out HYK.out).2 ⟨HT.out, HE.out⟩⟩
        case measure => simp [intOf]; omega
    · go_wp2
      go_ret
      exact ⟨ret_bool (by rw [eq_comm, eqB_true]; exact eq_of_take HX.out.symm HY.out.symm (by rw [show n = k from by omega]; exact HT.out)), (((Ex.refl _).alloc _).alloc _).trans HBEL.out⟩

def noCache : CacheD := ⟨[], 0⟩
def noLine : LineD := ⟨false, 0, 0, 0, 0, false⟩
def newCache (n : Int) : CacheD × Bool := if 1 ≤ n ∧ n ≤ 8 then (⟨List.replicate n.toNat noLine, 0⟩, true) else (noCache, false)
theorem newCache_few (n : Int) : (newCache n).1.lines.length ≤ 1048576 := by
  unfold newCache; split <;> simp [noCache]; omega

end Go.Proofs.Ytkoegcalfibinaa
