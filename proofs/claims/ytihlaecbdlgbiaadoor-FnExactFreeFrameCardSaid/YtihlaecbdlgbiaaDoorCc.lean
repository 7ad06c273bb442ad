/- Contracts over whole caches: comparing, copying, counting, marking, making. -/
import Derived.Test.YtihlaecbdlgbiaaDoorCl
namespace Go.Proofs.YtihlaecbdlgbiaaDoor
open Go.ChangeShapes Go.WideShapes Go.ChangeAt Go.RowKit
open Rec (sz cs)
set_option linter.unusedVariables false
set_option maxRecDepth 100000

set_option maxHeartbeats 400000 in
theorem szCache_c (t : CacheD) (A : Option Addr) (c : Nat) (l : Int) (w : World) (h0 : 0 ≤ l) (h1 : l ≤ 1048576) (hn : t.lines.length ≤ maxLen) :
    Calls Tryd.prog 19 #[.agg #[.slice A t.lines.length c, .int .i64 t.hand], .int .i64 l] w fun r w' => r = .returned (.int .i64 (szI l t.lines.length)) ∧ Ex w w' := by
  obtain ⟨os, b⟩ := t
  generalize os.length = n at *
  by_cases hlt : l < n
  · have HF := Lib.hid (szI_neg hlt)
    go_enter Tryd.func19, Tryd.ntmps19
    go_wp2_with (go_at_call 46; go_must (refine (szLineS_c _ _ _ _ _ h0 h1 hn).mono ?_); rw [HF.out]; rintro r w2 ⟨rfl, rfl⟩)
    go_ret
    exact ⟨ret_int HF.out.symm, (Ex.refl _).alloc _⟩
  · have HF := Lib.hid (szI_pos hlt)
    have h2 : 0 ≤ l - n := by omega
    go_enter Tryd.func19, Tryd.ntmps19
    go_wp2_with (go_at_call 46; go_must (refine (szLineS_c _ _ _ _ _ h0 h1 hn).mono ?_); rw [HF.out]; rintro r w2 ⟨rfl, rfl⟩)
    go_ret
    exact ⟨ret_int HF.out.symm, (Ex.refl _).alloc _⟩

theorem cache_eq (x y : CacheD) : x = y ↔ x.lines = y.lines ∧ x.hand = y.hand := by
  cases x; cases y; simp

set_option maxHeartbeats 400000 in
theorem eqCache_c (x y : CacheD) (A B : Option Addr) (c d : Nat) (w : World) (hx : Rd w A x.lines) (hy : Rd w B y.lines) (hn : x.lines.length ≤ 1048576) (hm : y.lines.length ≤ 1048576) :
    Calls Tryd.prog 37 #[.agg #[.slice A x.lines.length c, .int .i64 x.hand], .agg #[.slice B y.lines.length d, .int .i64 y.hand]] w fun r w' => r = .returned (.bool (eqB x y)) ∧ Ex w w' := by
  have HE := Lib.hid (cache_eq x y)
  obtain ⟨xs, a1⟩ := x
  obtain ⟨ys, a2⟩ := y
  simp only at HE hx hy hn hm ⊢
  have H1 := Lib.hid hx
  have H2 := Lib.hid hy
  have H3 := Lib.hid hn
  have H4 := Lib.hid hm
  clear hx hy hn hm
  cases e4 : eqB xs ys
  all_goals
    go_enter Tryd.func37, Tryd.ntmps37
    go_wp2_with (go_at_call 73; go_must (refine (eqLineS_c A B c d xs ys _ ((H1.out.alloc _).alloc _) ((H2.out.alloc _).alloc _) H3.out H4.out).mono ?_); rw [e4]; rintro r w2 ⟨rfl, hb⟩; obtain ⟨hcc, hzz⟩ := ex_rules hb; have HEX := Lib.hid (((Ex.refl w).alloc _).alloc _ |>.trans hb); clear hb)
    all_goals go_ret
    all_goals first
      | exact ⟨ret_bool (by rw [eq_comm, eqB_false, Ne, HE.out]; simp_all [eqB]), HEX.out⟩
      | exact ⟨ret_bool (by rw [eq_comm, eqB_true, HE.out]; simp_all [eqB]), HEX.out⟩

theorem eqCache_self_c (x : CacheD) (A B : Option Addr) (c d : Nat) (w : World) (hx : Rd w A x.lines) (hy : Rd w B x.lines) (hn : x.lines.length ≤ 1048576) :
    Calls Tryd.prog 37 #[.agg #[.slice A x.lines.length c, .int .i64 x.hand], .agg #[.slice B x.lines.length d, .int .i64 x.hand]] w fun r w' => r = .returned (.bool true) ∧ Ex w w' :=
  (eqCache_c x x A B c d w hx hy hn hn).mono fun _ _ ⟨h1, h2⟩ => ⟨by rw [h1, eqB_self], h2⟩

set_option maxHeartbeats 400000 in
theorem toCache_c (t : CacheD) (A : Option Addr) (c : Nat) (w : World) (hx : Rd w A t.lines) (hn : t.lines.length ≤ 1048576) :
    Calls Tryd.prog 27 #[.agg #[.slice A t.lines.length c, .int .i64 t.hand]] w
    fun r w' => ∃ A' c', r = .returned (.agg #[.slice A' t.lines.length c', .int .i64 t.hand]) ∧ Fr 74 w' w.heap.size A' c' t.lines ∧ Ex w w' := by
  obtain ⟨xs, a1⟩ := t
  simp only at hx hn ⊢
  have H1 := Lib.hid hx
  have H3 := Lib.hid hn
  clear hx hn
  go_enter Tryd.func27, Tryd.ntmps27
  go_wp2_with (go_at_call 59; go_must (refine (toLineS_c A c xs _ (((H1.out.alloc _).alloc _).alloc _) H3.out).mono ?_); rintro r w2 ⟨A', c', rfl, hf, hb⟩; have HF := Lib.hid hf; obtain ⟨hbc, hbf⟩ := ex_rules hb; have hsz := hb.size; have HEX := Lib.hid (((Ex.refl w).alloc _).alloc _ |>.alloc _ |>.trans hb); clear hb hf)
  exact bodyPost_ret (v := .agg #[.slice A' xs.length c', .int .i64 a1]) (by simp [results, Tryd.results27, go_sem, hbc]) rfl
    ⟨A', c', rfl, Fr.mono ((((HF.out.set_below (by simp) _).set_below (by simp) _).set_below (by simp) _).set_below (by simp) _) (by simp; omega),
      (((HEX.out.set (by simp; omega) _).set (by simp; omega) _).set (by simp) _).set (by simp) _⟩

def noCache : CacheD := ⟨[], 0⟩
def noLine : LineD := ⟨false, 0, 0, 0, 0, false⟩
def newCache (n : Int) : CacheD × Bool := if 1 ≤ n ∧ n ≤ 8 then (⟨List.replicate n.toNat noLine, 0⟩, true) else (noCache, false)
theorem newCache_few (n : Int) : (newCache n).1.lines.length ≤ 1048576 := by
  unfold newCache; split <;> simp [noCache]; omega

end Go.Proofs.YtihlaecbdlgbiaaDoor
