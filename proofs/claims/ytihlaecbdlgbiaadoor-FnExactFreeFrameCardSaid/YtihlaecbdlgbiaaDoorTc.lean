/- Contracts over whole tags: comparing, copying, counting, marking, making. -/
import Derived.Test.YtihlaecbdlgbiaaDoorTb
namespace Go.Proofs.YtihlaecbdlgbiaaDoor
open Go.ChangeShapes Go.WideShapes Go.ChangeAt Go.RowKit
open Rec (sz cs)
set_option linter.unusedVariables false
set_option maxRecDepth 100000

set_option maxHeartbeats 400000 in
theorem szTags_c (t : TagsD) (A : Option Addr) (c : Nat) (l : Int) (w : World) (h0 : 0 ≤ l) (h1 : l ≤ 1048576) (hn : t.owns.length ≤ maxLen) :
    Calls Tryd.prog 20 #[.agg #[.int .i64 t.count, .int .i64 t.next, .int .i64 t.round, .slice A t.owns.length c], .int .i64 l] w fun r w' => r = .returned (.int .i64 (szI l t.owns.length)) ∧ Ex w w' := by
  obtain ⟨a, b, d, os⟩ := t
  generalize os.length = n at *
  by_cases hlt : l < n
  · have HF := Lib.hid (szI_neg hlt)
    go_enter Tryd.func20, Tryd.ntmps20
    go_wp2_with (go_at_call 47; go_must (refine (szOwnS_c _ _ _ _ _ h0 h1 hn).mono ?_); rw [HF.out]; rintro r w2 ⟨rfl, rfl⟩)
    go_ret
    exact ⟨ret_int HF.out.symm, (Ex.refl _).alloc _⟩
  · have HF := Lib.hid (szI_pos hlt)
    have h2 : 0 ≤ l - n := by omega
    go_enter Tryd.func20, Tryd.ntmps20
    go_wp2_with (go_at_call 47; go_must (refine (szOwnS_c _ _ _ _ _ h0 h1 hn).mono ?_); rw [HF.out]; rintro r w2 ⟨rfl, rfl⟩)
    go_ret
    exact ⟨ret_int HF.out.symm, (Ex.refl _).alloc _⟩

theorem tags_eq (x y : TagsD) : x = y ↔ x.count = y.count ∧ x.next = y.next ∧ x.round = y.round ∧ x.owns = y.owns := by
  cases x; cases y; simp

set_option maxHeartbeats 400000 in
theorem eqTags_c (x y : TagsD) (A B : Option Addr) (c d : Nat) (w : World) (hx : Rd w A x.owns) (hy : Rd w B y.owns) (hn : x.owns.length ≤ 1048576) (hm : y.owns.length ≤ 1048576) :
    Calls Tryd.prog 38 #[.agg #[.int .i64 x.count, .int .i64 x.next, .int .i64 x.round, .slice A x.owns.length c], .agg #[.int .i64 y.count, .int .i64 y.next, .int .i64 y.round, .slice B y.owns.length d]] w fun r w' => r = .returned (.bool (eqB x y)) ∧ Ex w w' := by
  have HE := Lib.hid (tags_eq x y)
  obtain ⟨a1, b1, d1, xs⟩ := x
  obtain ⟨a2, b2, d2, ys⟩ := y
  simp only at HE hx hy hn hm ⊢
  have H1 := Lib.hid hx
  have H2 := Lib.hid hy
  have H3 := Lib.hid hn
  have H4 := Lib.hid hm
  clear hx hy hn hm
  cases e4 : eqB xs ys
  all_goals
    go_enter Tryd.func38, Tryd.ntmps38
    go_wp2_with (go_at_call 74; go_must (refine (eqOwnS_c A B c d xs ys _ ((H1.out.alloc _).alloc _) ((H2.out.alloc _).alloc _) H3.out H4.out).mono ?_); rw [e4]; rintro r w2 ⟨rfl, hb⟩; have HEX := Lib.hid (((Ex.refl w).alloc _).alloc _ |>.trans hb); clear hb)
    all_goals go_ret
    all_goals first
      | exact ⟨ret_bool (by rw [eq_comm, eqB_false, Ne, HE.out]; simp_all [eqB]), ((Ex.refl _).alloc _).alloc _⟩
      | exact ⟨ret_bool (by rw [eq_comm, eqB_false, Ne, HE.out]; simp_all [eqB]), HEX.out⟩
      | exact ⟨ret_bool (by rw [eq_comm, eqB_true, HE.out]; simp_all [eqB]), HEX.out⟩

theorem eqTags_self_c (x : TagsD) (A B : Option Addr) (c d : Nat) (w : World) (hx : Rd w A x.owns) (hy : Rd w B x.owns) (hn : x.owns.length ≤ 1048576) :
    Calls Tryd.prog 38 #[.agg #[.int .i64 x.count, .int .i64 x.next, .int .i64 x.round, .slice A x.owns.length c], .agg #[.int .i64 x.count, .int .i64 x.next, .int .i64 x.round, .slice B x.owns.length d]] w fun r w' => r = .returned (.bool true) ∧ Ex w w' :=
  (eqTags_c x x A B c d w hx hy hn hn).mono fun _ _ ⟨h1, h2⟩ => ⟨by rw [h1, eqB_self], h2⟩

set_option maxHeartbeats 400000 in
theorem toTags_c (t : TagsD) (A : Option Addr) (c : Nat) (w : World) (hx : Rd w A t.owns) (hn : t.owns.length ≤ 1048576) :
    Calls Tryd.prog 28 #[.agg #[.int .i64 t.count, .int .i64 t.next, .int .i64 t.round, .slice A t.owns.length c]] w
    fun r w' => ∃ A' c', r = .returned (.agg #[.int .i64 t.count, .int .i64 t.next, .int .i64 t.round, .slice A' t.owns.length c']) ∧ Fr 102 w' w.heap.size A' c' t.owns ∧ Ex w w' := by
  obtain ⟨a1, b1, d1, xs⟩ := t
  simp only at hx hn ⊢
  have H1 := Lib.hid hx
  have H3 := Lib.hid hn
  clear hx hn
  go_enter Tryd.func28, Tryd.ntmps28
  go_wp2_with (go_at_call 60; go_must (refine (toOwnS_c A c xs _ (((H1.out.alloc _).alloc _).alloc _) H3.out).mono ?_); rintro r w2 ⟨A', c', rfl, hf, hb⟩; have HF := Lib.hid hf; obtain ⟨hbc, hbf⟩ := ex_rules hb; have hsz := hb.size; have HEX := Lib.hid (((Ex.refl w).alloc _).alloc _ |>.alloc _ |>.trans hb); clear hb hf)
  exact bodyPost_ret (v := .agg #[.int .i64 a1, .int .i64 b1, .int .i64 d1, .slice A' xs.length c']) (by simp [results, Tryd.results28, go_sem, hbc]) rfl
    ⟨A', c', rfl, Fr.mono (((((HF.out.set_below (by simp) _).set_below (by simp) _).set_below (by simp) _).set_below (by simp) _).set_below (by simp) _) (by simp; omega),
      ((((HEX.out.set (by simp; omega) _).set (by simp) _).set (by simp) _).set (by simp) _).set (by simp) _⟩

end Go.Proofs.YtihlaecbdlgbiaaDoor
