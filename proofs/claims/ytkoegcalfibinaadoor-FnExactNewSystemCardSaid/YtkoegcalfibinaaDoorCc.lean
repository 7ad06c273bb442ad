/- Contracts over whole caches: comparing, copying, counting, marking, making. -/
import Derived.Test.YtkoegcalfibinaaDoorCl
namespace Go.Proofs.YtkoegcalfibinaaDoor
open Go.ChangeShapes Go.WideShapes Go.ChangeAt Go.RowKit
open Rec (sz cs)
set_option linter.unusedVariables false
set_option maxRecDepth 100000

set_option maxHeartbeats 400000 in
theorem szCache_c (t : CacheD) (A : Option Addr) (c : Nat) (l : Int) (w : World) (h0 : 0 ≤ l) (h1 : l ≤ 1048576) (hn : t.lines.length ≤ maxLen) :
    Calls Tryd.prog 50 #[.agg #[.slice A t.lines.length c, .int .i64 t.hand], .int .i64 l] w fun r w' => r = .returned (.int .i64 (szI l t.lines.length)) ∧ Ex w w' := by
  obtain ⟨os, b⟩ := t
  generalize os.length = n at *
  by_cases hlt : l < n
  · have HF := Lib.hid (szI_neg hlt)
    go_enter Tryd.func50, Tryd.ntmps50
    go_wp2_with (go_at_call 97; go_must (refine (szLineS_c _ _ _ _ _ h0 h1 hn).mono ?_); rw [HF.out]; rintro r w2 ⟨rfl, rfl⟩)
    go_ret
    exact ⟨ret_int HF.out.symm, (Ex.refl _).alloc _⟩
  · have HF := Lib.hid (szI_pos hlt)
    have h2 : 0 ≤ l - n := by omega
    go_enter Tryd.func50, Tryd.ntmps50
    go_wp2_with (go_at_call 97; go_must (refine (szLineS_c _ _ _ _ _ h0 h1 hn).mono ?_); rw [HF.out]; rintro r w2 ⟨rfl, rfl⟩)
    go_ret
    exact ⟨ret_int HF.out.symm, (Ex.refl _).alloc _⟩

theorem cache_eq (x y : CacheD) : x = y ↔ x.lines = y.lines ∧ x.hand = y.hand := by
  cases x; cases y; simp

set_option maxHeartbeats 400000 in
theorem eqCache_c (x y : CacheD) (A B : Option Addr) (c d : Nat) (w : World) (hx : Rd w A x.lines) (hy : Rd w B y.lines) (hn : x.lines.length ≤ 1048576) (hm : y.lines.length ≤ 1048576) :
    Calls Tryd.prog 43 #[.agg #[.slice A x.lines.length c, .int .i64 x.hand], .agg #[.slice B y.lines.length d, .int .i64 y.hand]] w fun r w' => r = .returned (.bool (eqB x y)) ∧ Ex w w' := by
  have HE := Lib.hid (cache_eq x y)
  obtain ⟨xs, a1⟩ := x
  obtain ⟨ys, a2⟩ := y
  simp only at HE hx hy hn hm ⊢
  have H1 := Lib.hid hx
  have H2 := Lib.hid hy
  have H3 := Lib.hid hn
  have H4 := Lib.hid hm
  clear hx hy hn hm
  cases e4 : eqB xs ys
  all_goals
    go_enter Tryd.func43, Tryd.ntmps43
    go_wp2_with (go_at_call 89; go_must (refine (eqLineS_c A B c d xs ys _ ((H1.out.alloc _).alloc _) ((H2.out.alloc _).alloc _) H3.out H4.out).mono ?_); rw [e4]; rintro r w2 ⟨rfl, hb⟩; obtain ⟨hcc, hzz⟩ := ex_rules hb; have HEX := Lib.hid (((Ex.refl w).alloc _).alloc _ |>.trans hb); clear hb)
    all_goals go_ret
    all_goals first
      | exact ⟨ret_bool (by rw [eq_comm, eqB_false, Ne, HE.out]; simp_all [eqB]), HEX.out⟩
      | exact ⟨ret_bool (by rw [eq_comm, eqB_true, HE.out]; simp_all [eqB]), HEX.out⟩

theorem eqCache_self_c (x : CacheD) (A B : Option Addr) (c d : Nat) (w : World) (hx : Rd w A x.lines) (hy : Rd w B x.lines) (hn : x.lines.length ≤ 1048576) :
    Calls Tryd.prog 43 #[.agg #[.slice A x.lines.length c, .int .i64 x.hand], .agg #[.slice B x.lines.length d, .int .i64 x.hand]] w fun r w' => r = .returned (.bool true) ∧ Ex w w' :=
  (eqCache_c x x A B c d w hx hy hn hn).mono fun _ _ ⟨h1, h2⟩ => ⟨by rw [h1, eqB_self], h2⟩

set_option maxHeartbeats 400000 in
theorem toCache_c (t : CacheD) (A : Option Addr) (c : Nat) (w : World) (hx : Rd w A t.lines) (hn : t.lines.length ≤ 1048576) :
    Calls Tryd.prog 58 #[.agg #[.slice A t.lines.length c, .int .i64 t.hand]] w
    fun r w' => ∃ A' c', r = .returned (.agg #[.slice A' t.lines.length c', .int .i64 t.hand]) ∧ Fr 101 w' w.heap.size A' c' t.lines ∧ Ex w w' := by
  obtain ⟨xs, a1⟩ := t
  simp only at hx hn ⊢
  have H1 := Lib.hid hx
  have H3 := Lib.hid hn
  clear hx hn
  go_enter Tryd.func58, Tryd.ntmps58
  go_wp2_with (go_at_call 108; go_must (refine (toLineS_c A c xs _ (((H1.out.alloc _).alloc _).alloc _) H3.out).mono ?_); rintro r w2 ⟨A', c', rfl, hf, hb⟩; have HF := Lib.hid hf; obtain ⟨hbc, hbf⟩ := ex_rules hb; have hsz := hb.size; have HEX := Lib.hid (((Ex.refl w).alloc _).alloc _ |>.alloc _ |>.trans hb); clear hb hf)
  exact bodyPost_ret (v := .agg #[.slice A' xs.length c', .int .i64 a1]) (by simp [results, Tryd.results58, go_sem, hbc]) rfl
    ⟨A', c', rfl, Fr.mono ((((HF.out.set_below (by simp) _).set_below (by simp) _).set_below (by simp) _).set_below (by simp) _) (by simp; omega),
      (((HEX.out.set (by simp; omega) _).set (by simp; omega) _).set (by simp) _).set (by simp) _⟩

set_option maxHeartbeats 400000 in
theorem markCache_c (t : CacheD) (A : Option Addr) (B c : Nat) (k0 : Int) (w : World) (hx : Fr 101 w B A c t.lines) (hn : t.lines.length ≤ 1048576) (hk0 : 0 ≤ k0) (hk1 : k0 ≤ 1000000000) :
    Calls Tryd.prog 45 #[.agg #[.slice A t.lines.length c, .int .i64 t.hand], .int .i64 k0] w
    fun r w' => r = .returned (.int .i64 (k0 + 6 * t.lines.length)) ∧ Fr 101 w' B A c (markL mkLine 6 k0 t.lines.length) ∧ w.grownBy w' (rowOf A c) := by
  obtain ⟨xs, a1⟩ := t
  simp only at hx hn ⊢
  have H1 := Lib.hid hx
  have H3 := Lib.hid hn
  clear hx hn
  go_enter Tryd.func45, Tryd.ntmps45
  go_wp2_with (go_at_call 91; go_must (refine (markLineS_c A B c xs k0 _ (H1.out.alloc _) H3.out hk0 hk1).mono ?_); rintro r w2 ⟨rfl, hf, hb⟩; have HF := Lib.hid hf; have HG := Lib.hid hb; clear hb hf)
  go_ret
  exact ⟨rfl, HF.out, grown_trans (World.grownBy_alloc _ _ _) HG.out⟩

set_option maxHeartbeats 400000 in
theorem heldCache_c (a1 : Int) (A : Option Addr) (c n : Nat) (k0 : Int) (w : World) (hx : Rd w A (markL mkLine 6 k0 n)) (hn : n ≤ 1048576) (hk0 : 0 ≤ k0) (hk1 : k0 ≤ 1000000000) :
    Calls Tryd.prog 47 #[.agg #[.slice A n c, .int .i64 a1], .int .i64 k0] w
    fun r w' => r = .returned (.int .i64 (k0 + 6 * n)) ∧ Ex w w' := by
  have H1 := Lib.hid hx
  clear hx
  go_enter Tryd.func47, Tryd.ntmps47
  go_wp2_with (go_at_call 93; go_must (refine (heldLineS_c A c n k0 _ (H1.out.alloc _) hn hk0 hk1).mono ?_); rintro r w2 ⟨rfl, rfl⟩)
  go_ret
  exact ⟨rfl, (Ex.refl _).alloc _⟩

def noCache : CacheD := ⟨[], 0⟩
def noLine : LineD := ⟨false, 0, 0, 0, 0, false⟩
def newCache (n : Int) : CacheD × Bool := if 1 ≤ n ∧ n ≤ 8 then (⟨List.replicate n.toNat noLine, 0⟩, true) else (noCache, false)
theorem newCache_few (n : Int) : (newCache n).1.lines.length ≤ 1048576 := by
  unfold newCache; split <;> simp [noCache]; omega

set_option maxHeartbeats 400000 in
theorem newCacheI_c (n : Int) (w : World) : Calls Tryd.prog 40 #[.int .i64 n] w
    fun r w' => ∃ A c, r = .returned (.tuple #[.agg #[.slice A (newCache n).1.lines.length c, .int .i64 (newCache n).1.hand], .bool (newCache n).2]) ∧ Fr 101 w' w.heap.size A c (newCache n).1.lines ∧ Ex w w' := by
  by_cases h1 : 1 ≤ n
  · by_cases h2 : n ≤ 8
    · have e : newCache n = (⟨List.replicate n.toNat noLine, 0⟩, true) := if_pos ⟨h1, h2⟩
      rw [e]
      clear e
      obtain ⟨m, rfl⟩ := Int.eq_ofNat_of_zero_le (show 0 ≤ n by omega)
      simp only [Int.toNat_natCast, List.length_replicate]
      have hmk := make_rec (P := Tryd.prog) (α := LineD) 34 101 48 noLine _ Tryd.underlying34 infoLine rfl m (by omega) (by omega)
      go_enter Tryd.func40, Tryd.ntmps40
      go_wp2
      exact bodyPost_ret (v := .tuple #[.agg #[.slice (some ⟨w.heap.size + 1, 0, none⟩) m m, .int .i64 0], .bool true]) (by simp [results, Tryd.results40, go_sem]) rfl
        ⟨_, _, rfl, ⟨by simp, by simp only [maxLen]; omega, .inr ⟨_, [], rfl, by simp, by have := Bk.new (α := LineD) (w.alloc (.cells #[.slice (some ⟨w.heap.size + 1, 0, none⟩) m m, .int .i64 0] 36)) 101 (List.replicate m noLine); simpa using this, by simp⟩⟩, ((Ex.refl _).alloc _).alloc _⟩
    · have e : newCache n = (noCache, false) := if_neg (fun h => h2 h.2)
      rw [e]
      clear e
      have h3 : 8 < n := by omega
      go_enter Tryd.func40, Tryd.ntmps40
      go_wp2
      exact bodyPost_ret (v := .tuple #[.agg #[.slice none 0 0, .int .i64 0], .bool false]) (by simp [results, Tryd.results40, go_sem]) rfl
        ⟨none, 0, rfl, Fr.none_ _ _ _ _, (Ex.refl _).alloc _⟩
  · have e : newCache n = (noCache, false) := if_neg (fun h => h1 h.1)
    rw [e]
    clear e
    have h3 : n < 1 := by omega
    go_enter Tryd.func40, Tryd.ntmps40
    go_wp2
    exact bodyPost_ret (v := .tuple #[.agg #[.slice none 0 0, .int .i64 0], .bool false]) (by simp [results, Tryd.results40, go_sem]) rfl
      ⟨none, 0, rfl, Fr.none_ _ _ _ _, (Ex.refl _).alloc _⟩
set_option maxHeartbeats 400000 in
theorem newCacheS_c (n : Int) (w : World) : Calls Tryd.prog 37 #[.int .i64 n] w
    fun r w' => ∃ A c, r = .returned (.tuple #[.agg #[.slice A (newCache n).1.lines.length c, .int .i64 (newCache n).1.hand], .bool (newCache n).2]) ∧ Fr 101 w' w.heap.size A c (newCache n).1.lines ∧ Ex w w' := by
  by_cases h1 : 1 ≤ n
  · by_cases h2 : n ≤ 8
    · have e : newCache n = (⟨List.replicate n.toNat noLine, 0⟩, true) := if_pos ⟨h1, h2⟩
      rw [e]
      clear e
      obtain ⟨m, rfl⟩ := Int.eq_ofNat_of_zero_le (show 0 ≤ n by omega)
      simp only [Int.toNat_natCast, List.length_replicate]
      have hmk := make_rec (P := Tryd.prog) (α := LineD) 34 101 48 noLine _ Tryd.underlying34 infoLine rfl m (by omega) (by omega)
      go_enter Tryd.func37, Tryd.ntmps37
      go_wp2
      exact bodyPost_ret (v := .tuple #[.agg #[.slice (some ⟨w.heap.size + 1, 0, none⟩) m m, .int .i64 0], .bool true]) (by simp [results, Tryd.results37, go_sem]) rfl
        ⟨_, _, rfl, ⟨by simp, by simp only [maxLen]; omega, .inr ⟨_, [], rfl, by simp, by have := Bk.new (α := LineD) (w.alloc (.cells #[.slice (some ⟨w.heap.size + 1, 0, none⟩) m m, .int .i64 0] 36)) 101 (List.replicate m noLine); simpa using this, by simp⟩⟩, ((Ex.refl _).alloc _).alloc _⟩
    · have e : newCache n = (noCache, false) := if_neg (fun h => h2 h.2)
      rw [e]
      clear e
      have h3 : 8 < n := by omega
      go_enter Tryd.func37, Tryd.ntmps37
      go_wp2
      exact bodyPost_ret (v := .tuple #[.agg #[.slice none 0 0, .int .i64 0], .bool false]) (by simp [results, Tryd.results37, go_sem]) rfl
        ⟨none, 0, rfl, Fr.none_ _ _ _ _, (Ex.refl _).alloc _⟩
  · have e : newCache n = (noCache, false) := if_neg (fun h => h1 h.1)
    rw [e]
    clear e
    have h3 : n < 1 := by omega
    go_enter Tryd.func37, Tryd.ntmps37
    go_wp2
    exact bodyPost_ret (v := .tuple #[.agg #[.slice none 0 0, .int .i64 0], .bool false]) (by simp [results, Tryd.results37, go_sem]) rfl
      ⟨none, 0, rfl, Fr.none_ _ _ _ _, (Ex.refl _).alloc _⟩
end Go.Proofs.YtkoegcalfibinaaDoor
