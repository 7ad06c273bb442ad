/- Contracts over whole caches: comparing, copying, counting, marking, making. -/
import Derived.Test.YtidnefcnojedoaaCl
namespace Go.Proofs.Ytidnefcnojedoaa
open Go.ChangeShapes Go.WideShapes Go.ChangeAt Go.RowKit
open Rec (sz cs)
set_option linter.unusedVariables false
set_option maxRecDepth 100000

theorem cache_eq (x y : CacheD) : x = y ↔ x.lines = y.lines ∧ x.hand = y.hand := by
  cases x; cases y; simp

set_option maxHeartbeats 400000 in
theorem cacheSameI_c (x y : CacheD) (A B : Option Addr) (c d : Nat) (w : World) (hx : Rd w A x.lines) (hy : Rd w B y.lines) (hn : x.lines.length ≤ 1048576) (hm : y.lines.length ≤ 1048576) :
    Calls Try.prog 12 #[.agg #[.slice A x.lines.length c, .int .i64 x.hand], .agg #[.slice B y.lines.length d, .int .i64 y.hand]] w fun r w' => r = .returned (.bool (eqB x y)) ∧ Ex w w' := by
  have HE := Lib.hid (cache_eq x y)
  obtain ⟨xs, a1⟩ := x
  obtain ⟨ys, a2⟩ := y
  simp only at HE hx hy hn hm ⊢
  have H1 := Lib.hid hx
  have H2 := Lib.hid hy
  have H3 := Lib.hid hn
  have H4 := Lib.hid hm
  clear hx hy hn hm
  cases h1 : (a1 == a2)
  · go_enter Try.func12, Try.ntmps12
    go_wp2
    go_ret
    exact ⟨ret_bool (by rw [eq_comm, eqB_false, Ne, HE.out]; simp_all), ((Ex.refl _).alloc _).alloc _⟩
  have e : eqB (⟨xs, a1⟩ : CacheD) ⟨ys, a2⟩ = eqB xs ys := by
    rw [Bool.eq_iff_iff, eqB_true, eqB_true, HE.out]; simp_all
  rw [e]
  clear e HE
  go_enter Try.func12, Try.ntmps12
  go_wp2_with (go_at_call 26; go_must (refine (equalLine_c A B c d xs ys _ ((H1.out.alloc _).alloc _) ((H2.out.alloc _).alloc _) H3.out H4.out).mono ?_); rintro r w2 ⟨rfl, hb⟩; have HEX := Lib.hid (((Ex.refl w).alloc _).alloc _ |>.trans hb); clear hb)
  go_ret
  exact ⟨rfl, HEX.out⟩

set_option maxHeartbeats 1000000 in
theorem cacheSameS_c (x y : CacheD) (A B : Option Addr) (c d : Nat) (w : World) (hx : Rd w A x.lines) (hy : Rd w B y.lines) (hn : x.lines.length ≤ 1048576) (hm : y.lines.length ≤ 1048576) :
    Calls Try.prog 13 #[.agg #[.slice A x.lines.length c, .int .i64 x.hand], .agg #[.slice B y.lines.length d, .int .i64 y.hand]] w fun r w' => r = .returned (.bool (eqB x y)) ∧ Ex w w' := by
  have HE := Lib.hid (cache_eq x y)
  obtain ⟨xs, a1⟩ := x
  obtain ⟨ys, a2⟩ := y
  simp only at HE hx hy hn hm ⊢
  cases h4 : ((xs.length : Int) != (ys.length : Int))
  rotate_left
  · go_enter Try.func13, Try.ntmps13
    go_wp2
    go_ret
    exact ⟨ret_bool (by rw [eq_comm, eqB_false, Ne, HE.out]; intro hh; rw [hh.1] at h4; simp at h4), ((Ex.refl _).alloc _).alloc _⟩
  cases h1 : (a1 != a2)
  rotate_left
  · go_enter Try.func13, Try.ntmps13
    go_wp2
    go_ret
    exact ⟨ret_bool (by rw [eq_comm, eqB_false, Ne, HE.out]; simp_all), ((Ex.refl _).alloc _).alloc _⟩
  have e : eqB (⟨xs, a1⟩ : CacheD) ⟨ys, a2⟩ = eqB xs ys := by
    rw [Bool.eq_iff_iff, eqB_true, eqB_true, HE.out]; simp_all
  rw [e]
  clear e HE
  have hl : xs.length = ys.length := by simp at h4; omega
  clear h4
  obtain ⟨n, hn1⟩ : ∃ n, n = xs.length := ⟨_, rfl⟩
  obtain ⟨m, hm1⟩ : ∃ m, m = ys.length := ⟨_, rfl⟩
  rw [← hn1, ← hm1]
  obtain rfl : n = m := by omega
  have hn' : n ≤ 1048576 := by omega
  have HX := Lib.hid hn1
  have HY := Lib.hid hm1
  have H1 := Lib.hid hx
  have H2 := Lib.hid hy
  clear hn hm hn1 hm1 hx hy hl
  go_enter Try.func13, Try.ntmps13
  go_wp2
  clear h1
  go_loopw [5] (fun i wr => ∃ k : Nat, k ≤ n ∧ i = .int .i64 k ∧ Ex ((w.alloc (.cells #[.slice A n c, .int .i64 a1] 33)).alloc (.cells #[.slice B n d, .int .i64 a2] 33)) wr ∧ xs.take k = ys.take k) (fun i _ => n - (intOf i).toNat)
  case atStart => exact ⟨0, Nat.zero_le _, rfl, Ex.refl _, rfl⟩
  case round =>
    obtain ⟨k, hk, rfl, hbel, htk⟩ := hrel
    obtain ⟨hbc, hbf⟩ := ex_rules hbel
    have HT := Lib.hid htk
    have HBEL := Lib.hid hbel
    clear htk hbel hbf
    by_cases hlt : k < n
    · obtain ⟨b1, o1, x, rfl, hb1, hxk, h0, h1, h2, h3, h4, h5⟩ := Rd.line (((H1.out.alloc _).alloc _).ex HBEL.out) (k := k) (by have := HX.out; omega)
      obtain ⟨b2, o2, y, rfl, hb2, hyk, g0, g1, g2, g3, g4, g5⟩ := Rd.line (((H2.out.alloc _).alloc _).ex HBEL.out) (k := k) (by have := HY.out; omega)
      have HXK := Lib.hid hxk
      have HYK := Lib.hid hyk
      clear hxk hyk
      have hneq := neq_line x y
      have hgd := guardLine
      cases hxy : eqB x y
      · have hne : x ≠ y := eqB_false.1 hxy
        go_wp2_with fail
        go_quiet (fail)
        clear hneq hgd
        go_wp2
        go_ret
        exact ⟨ret_bool (by rw [eq_comm, eqB_false]; exact ne_of_elem HXK.out HYK.out hne), ((((Ex.refl _).alloc _).alloc _).trans HBEL.out).drewN _⟩
      · have HE := Lib.hid (eqB_true.1 hxy)
        go_wp2_with fail
        go_quiet (fail)
        clear hneq hgd
        go_wp2
        go_roundw
        case rel => exact ⟨k + 1, by omega, by go_num, HBEL.out.drewN _, (take_eq_step HXK.out HYK.out).2 ⟨HT.out, HE.out⟩⟩
        case measure => simp [intOf]; omega
    · go_wp2
      go_ret
      exact ⟨ret_bool (by rw [eq_comm, eqB_true]; exact eq_of_take HX.out.symm HY.out.symm (by rw [show n = k from by omega]; exact HT.out)), (((Ex.refl _).alloc _).alloc _).trans HBEL.out⟩

def noCache : CacheD := ⟨[], 0⟩
def noLine : LineD := ⟨false, 0, 0, 0, 0, false⟩
def newCache (n : Int) : CacheD × Bool := if 1 ≤ n ∧ n ≤ 8 then (⟨List.replicate n.toNat noLine, 0⟩, true) else (noCache, false)
theorem newCache_few (n : Int) : (newCache n).1.lines.length ≤ 1048576 := by
  unfold newCache; split <;> simp [noCache]; omega

set_option maxHeartbeats 400000 in
theorem newCacheS_c (n : Int) (w : World) : Calls Try.prog 42 #[.int .i64 n] w
    fun r w' => ∃ A c, r = .returned (.tuple #[.agg #[.slice A (newCache n).1.lines.length c, .int .i64 (newCache n).1.hand], .bool (newCache n).2]) ∧ Fr 43 w' w.heap.size A c (newCache n).1.lines ∧ Ex w w' := by
  by_cases h1 : 1 ≤ n
  · by_cases h2 : n ≤ 8
    · have e : newCache n = (⟨List.replicate n.toNat noLine, 0⟩, true) := if_pos ⟨h1, h2⟩
      rw [e]
      clear e
      obtain ⟨m, rfl⟩ := Int.eq_ofNat_of_zero_le (show 0 ≤ n by omega)
      simp only [Int.toNat_natCast, List.length_replicate]
      have hmk := make_rec (P := Try.prog) (α := LineD) 31 43 48 noLine _ Try.underlying31 infoLine rfl m (by omega) (by omega)
      go_enter Try.func42, Try.ntmps42
      go_wp2
      exact bodyPost_ret (v := .tuple #[.agg #[.slice (some ⟨w.heap.size + 1, 0, none⟩) m m, .int .i64 0], .bool true]) (by simp [results, Try.results42, go_sem]) rfl
        ⟨_, _, rfl, ⟨by simp, by simp only [maxLen]; omega, .inr ⟨_, [], rfl, by simp, by have := Bk.new (α := LineD) (w.alloc (.cells #[.slice (some ⟨w.heap.size + 1, 0, none⟩) m m, .int .i64 0] 33)) 43 (List.replicate m noLine); simpa using this, by simp⟩⟩, ((Ex.refl _).alloc _).alloc _⟩
    · have e : newCache n = (noCache, false) := if_neg (fun h => h2 h.2)
      rw [e]
      clear e
      have h3 : 8 < n := by omega
      go_enter Try.func42, Try.ntmps42
      go_wp2
      exact bodyPost_ret (v := .tuple #[.agg #[.slice none 0 0, .int .i64 0], .bool false]) (by simp [results, Try.results42, go_sem]) rfl
        ⟨none, 0, rfl, Fr.none_ _ _ _ _, (Ex.refl _).alloc _⟩
  · have e : newCache n = (noCache, false) := if_neg (fun h => h1 h.1)
    rw [e]
    clear e
    have h3 : n < 1 := by omega
    go_enter Try.func42, Try.ntmps42
    go_wp2
    exact bodyPost_ret (v := .tuple #[.agg #[.slice none 0 0, .int .i64 0], .bool false]) (by simp [results, Try.results42, go_sem]) rfl
      ⟨none, 0, rfl, Fr.none_ _ _ _ _, (Ex.refl _).alloc _⟩
end Go.Proofs.Ytidnefcnojedoaa
