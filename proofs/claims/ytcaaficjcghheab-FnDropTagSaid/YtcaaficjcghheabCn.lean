/- WireLine: the model and the implementation's walk. -/
import Derived.Test.YtcaaficjcghheabCk
import Derived.Test.YtcaaficjcghheabCm
namespace Go.Proofs.Ytcaaficjcghheab
open Go.ChangeShapes Go.WideShapes Go.ChangeAt Go.RowKit
open Rec (sz cs)
set_option linter.unusedVariables false
set_option maxRecDepth 100000

def wireOut (t : CacheD) (k : Nat) (b : Bool) : CacheD := ⟨t.lines.set k { t.lines.getD k noLine with wired := b }, t.hand⟩
def wireLine (t : CacheD) (p : Int) (b : Bool) : CacheD × Bool :=
  if cacheV t = true ∧ inB p t.lines.length = true ∧ (t.lines.getD p.toNat noLine).valid = true ∧ cacheV (wireOut t p.toNat b) = true then (wireOut t p.toNat b, true) else (noCache, false)

set_option maxHeartbeats 2000000 in
theorem wireI_c (t : CacheD) (p : Int) (b : Bool) (A : Option Addr) (c : Nat) (w : World) (hx : Rd w A t.lines) (hn : t.lines.length ≤ 1048576) (hc : t.lines.length ≤ c) (hc2 : c ≤ maxLen) :
    Calls Try.prog 28 #[.agg #[.slice A t.lines.length c, .int .i64 t.hand], .int .i64 p, .bool b] w
    fun r w' => ∃ A' c', r = .returned (.tuple #[.agg #[.slice A' (wireLine t p b).1.lines.length c', .int .i64 (wireLine t p b).1.hand], .bool (wireLine t p b).2]) ∧ Fr 31 w' w.heap.size A' c' (wireLine t p b).1.lines ∧ Ex w w' := by
  have HX := Lib.hid hx
  clear hx
  cases hv : cacheV t
  · have e : wireLine t p b = (noCache, false) := if_neg (fun h => by rw [hv] at h; cases h.1)
    rw [e]
    clear e
    go_enter Try.func28, Try.ntmps28
    go_wp2_with fail
    refine (cacheValidI_c t A c _ ((HX.out.alloc _).alloc _) hn hc).mono ?_; rintro r w1 ⟨rfl, hb1⟩
    have s1 : w.heap.size ≤ w1.heap.size := by have := hb1.size; first | omega | (simp at this; omega)
    have E1 : Hid (Ex w w1) := Lib.hid (by first | exact (Ex.refl w).trans hb1 | exact ((Ex.refl w).alloc _).trans hb1 | exact (((Ex.refl w).alloc _).alloc _).trans hb1 | exact ((((Ex.refl w).alloc _).alloc _).alloc _).trans hb1 | exact (((((Ex.refl w).alloc _).alloc _).alloc _).alloc _).trans hb1 | exact ((((((Ex.refl w).alloc _).alloc _).alloc _).alloc _).alloc _).trans hb1 | exact (((((((Ex.refl w).alloc _).alloc _).alloc _).alloc _).alloc _).alloc _).trans hb1)
    have KX : Hid (Blk w1 (w.heap.size) 25 [.slice A t.lines.length c, .int .i64 t.hand]) := Lib.hid (by first | exact (Blk.new_at _ _ _ (by simp)).ex hb1 | exact ((Blk.new_at _ _ _ (by simp)).alloc _).ex hb1 | exact (((Blk.new_at _ _ _ (by simp)).alloc _).alloc _).ex hb1 | exact ((((Blk.new_at _ _ _ (by simp)).alloc _).alloc _).alloc _).ex hb1 | exact (((((Blk.new_at _ _ _ (by simp)).alloc _).alloc _).alloc _).alloc _).ex hb1)
    obtain ⟨qX0, qX1⟩ := KX.out.c2
    have lX := KX.out.lt
    have KR : Hid (Blk w1 (w.heap.size + 1) 25 [.slice none 0 0, .int .i64 0]) := Lib.hid (by first | exact (Blk.new_at _ _ _ (by simp)).ex hb1 | exact ((Blk.new_at _ _ _ (by simp)).alloc _).ex hb1 | exact (((Blk.new_at _ _ _ (by simp)).alloc _).alloc _).ex hb1 | exact ((((Blk.new_at _ _ _ (by simp)).alloc _).alloc _).alloc _).ex hb1 | exact (((((Blk.new_at _ _ _ (by simp)).alloc _).alloc _).alloc _).alloc _).ex hb1)
    obtain ⟨qR0, qR1⟩ := KR.out.c2
    have lR := KR.out.lt
    have HB1 := Lib.hid hb1; clear hb1
    rw [hv]
    have rfz := KR.out.frozen
    go_wp2
    exact bodyPost_ret (v := .tuple #[.agg #[.slice none 0 0, .int .i64 0], .bool false]) (by simp [results, Try.results28, go_sem, qR0, qR1]) rfl
      ⟨none, 0, rfl, Fr.none_ _ _ _ _, (E1.out.set (Nat.le_add_right _ 1) _).set (Nat.le_add_right _ 1) _⟩
  cases hk : inB p t.lines.length
  · have e : wireLine t p b = (noCache, false) := if_neg (fun h => by rw [hk] at h; cases h.2.1)
    rw [e]
    clear e
    go_enter Try.func28, Try.ntmps28
    go_wp2_with fail
    refine (cacheValidI_c t A c _ ((HX.out.alloc _).alloc _) hn hc).mono ?_; rintro r w1 ⟨rfl, hb1⟩
    have s1 : w.heap.size ≤ w1.heap.size := by have := hb1.size; first | omega | (simp at this; omega)
    have E1 : Hid (Ex w w1) := Lib.hid (by first | exact (Ex.refl w).trans hb1 | exact ((Ex.refl w).alloc _).trans hb1 | exact (((Ex.refl w).alloc _).alloc _).trans hb1 | exact ((((Ex.refl w).alloc _).alloc _).alloc _).trans hb1 | exact (((((Ex.refl w).alloc _).alloc _).alloc _).alloc _).trans hb1 | exact ((((((Ex.refl w).alloc _).alloc _).alloc _).alloc _).alloc _).trans hb1 | exact (((((((Ex.refl w).alloc _).alloc _).alloc _).alloc _).alloc _).alloc _).trans hb1)
    have KX : Hid (Blk w1 (w.heap.size) 25 [.slice A t.lines.length c, .int .i64 t.hand]) := Lib.hid (by first | exact (Blk.new_at _ _ _ (by simp)).ex hb1 | exact ((Blk.new_at _ _ _ (by simp)).alloc _).ex hb1 | exact (((Blk.new_at _ _ _ (by simp)).alloc _).alloc _).ex hb1 | exact ((((Blk.new_at _ _ _ (by simp)).alloc _).alloc _).alloc _).ex hb1 | exact (((((Blk.new_at _ _ _ (by simp)).alloc _).alloc _).alloc _).alloc _).ex hb1)
    obtain ⟨qX0, qX1⟩ := KX.out.c2
    have lX := KX.out.lt
    have KR : Hid (Blk w1 (w.heap.size + 1) 25 [.slice none 0 0, .int .i64 0]) := Lib.hid (by first | exact (Blk.new_at _ _ _ (by simp)).ex hb1 | exact ((Blk.new_at _ _ _ (by simp)).alloc _).ex hb1 | exact (((Blk.new_at _ _ _ (by simp)).alloc _).alloc _).ex hb1 | exact ((((Blk.new_at _ _ _ (by simp)).alloc _).alloc _).alloc _).ex hb1 | exact (((((Blk.new_at _ _ _ (by simp)).alloc _).alloc _).alloc _).alloc _).ex hb1)
    obtain ⟨qR0, qR1⟩ := KR.out.c2
    have lR := KR.out.lt
    have HB1 := Lib.hid hb1; clear hb1
    rw [hv]
    go_wp2_with fail
    refine (within_c p t.lines.length _).mono ?_
    rintro r w2 ⟨rfl, rfl⟩
    rw [hk]
    have rfz := KR.out.frozen
    go_wp2
    exact bodyPost_ret (v := .tuple #[.agg #[.slice none 0 0, .int .i64 0], .bool false]) (by simp [results, Try.results28, go_sem, qR0, qR1]) rfl
      ⟨none, 0, rfl, Fr.none_ _ _ _ _, (E1.out.set (Nat.le_add_right _ 1) _).set (Nat.le_add_right _ 1) _⟩
  have hkk := inB_true.1 hk
  obtain ⟨k, rfl⟩ := Int.eq_ofNat_of_zero_le hkk.1
  have hkn : k < t.lines.length := by omega
  have hxk := List.getElem?_eq_getElem hkn
  generalize t.lines[k] = x at hxk
  have hgd := getD_of (d := noLine) hxk
  have HXK := Lib.hid hxk
  clear hxk hkk
  cases hxv : x.valid
  · have e : wireLine t k b = (noCache, false) := if_neg (fun h => by have := h.2.2.1; rw [Int.toNat_natCast, hgd, hxv] at this; cases this)
    rw [e]
    clear e
    go_enter Try.func28, Try.ntmps28
    go_wp2_with fail
    refine (cacheValidI_c t A c _ ((HX.out.alloc _).alloc _) hn hc).mono ?_; rintro r w1 ⟨rfl, hb1⟩
    have s1 : w.heap.size ≤ w1.heap.size := by have := hb1.size; first | omega | (simp at this; omega)
    have E1 : Hid (Ex w w1) := Lib.hid (by first | exact (Ex.refl w).trans hb1 | exact ((Ex.refl w).alloc _).trans hb1 | exact (((Ex.refl w).alloc _).alloc _).trans hb1 | exact ((((Ex.refl w).alloc _).alloc _).alloc _).trans hb1 | exact (((((Ex.refl w).alloc _).alloc _).alloc _).alloc _).trans hb1 | exact ((((((Ex.refl w).alloc _).alloc _).alloc _).alloc _).alloc _).trans hb1 | exact (((((((Ex.refl w).alloc _).alloc _).alloc _).alloc _).alloc _).alloc _).trans hb1)
    have KX : Hid (Blk w1 (w.heap.size) 25 [.slice A t.lines.length c, .int .i64 t.hand]) := Lib.hid (by first | exact (Blk.new_at _ _ _ (by simp)).ex hb1 | exact ((Blk.new_at _ _ _ (by simp)).alloc _).ex hb1 | exact (((Blk.new_at _ _ _ (by simp)).alloc _).alloc _).ex hb1 | exact ((((Blk.new_at _ _ _ (by simp)).alloc _).alloc _).alloc _).ex hb1 | exact (((((Blk.new_at _ _ _ (by simp)).alloc _).alloc _).alloc _).alloc _).ex hb1)
    obtain ⟨qX0, qX1⟩ := KX.out.c2
    have lX := KX.out.lt
    have KR : Hid (Blk w1 (w.heap.size + 1) 25 [.slice none 0 0, .int .i64 0]) := Lib.hid (by first | exact (Blk.new_at _ _ _ (by simp)).ex hb1 | exact ((Blk.new_at _ _ _ (by simp)).alloc _).ex hb1 | exact (((Blk.new_at _ _ _ (by simp)).alloc _).alloc _).ex hb1 | exact ((((Blk.new_at _ _ _ (by simp)).alloc _).alloc _).alloc _).ex hb1 | exact (((((Blk.new_at _ _ _ (by simp)).alloc _).alloc _).alloc _).alloc _).ex hb1)
    obtain ⟨qR0, qR1⟩ := KR.out.c2
    have lR := KR.out.lt
    have HB1 := Lib.hid hb1; clear hb1
    rw [hv]
    go_wp2_with fail
    refine (within_c k t.lines.length _).mono ?_
    rintro r w2 ⟨rfl, rfl⟩
    rw [hk]
    obtain ⟨a1, o1, x', rfl, hb1, hxk', h0, h1, h2, h3, h4, h5⟩ := Rd.line (HX.out.ex E1.out) (k := k) hkn
    obtain rfl : x = x' := by have := HXK.out; rw [hxk'] at this; injection this with this; exact this.symm
    rw [hxv] at h0
    have rfz := KR.out.frozen
    go_wp2
    exact bodyPost_ret (v := .tuple #[.agg #[.slice none 0 0, .int .i64 0], .bool false]) (by simp [results, Try.results28, go_sem, qR0, qR1]) rfl
      ⟨none, 0, rfl, Fr.none_ _ _ _ _, (E1.out.set (Nat.le_add_right _ 1) _).set (Nat.le_add_right _ 1) _⟩
  obtain ⟨xv, xt, xp, xf, xr, xw⟩ := x
  simp only at hxv
  subst hxv
  obtain ⟨a1, o1, hA, -, -⟩ := HX.out (by omega)
  subst hA
  have hce : wireOut t k b = ⟨t.lines.set k ⟨true, xt, xp, xf, xr, b⟩, t.hand⟩ := by unfold wireOut; rw [hgd]
  cases hco : cacheV (wireOut t k b)
  · have e : wireLine t k b = (noCache, false) := if_neg (fun h => by have := h.2.2.2; rw [Int.toNat_natCast, hco] at this; cases this)
    rw [e]
    clear e
    rw [hce] at hco
    go_enter Try.func28, Try.ntmps28
    go_wp2_with fail
    refine (cacheValidI_c t _ c _ ((HX.out.alloc _).alloc _) hn hc).mono ?_; rintro r w1 ⟨rfl, hb1⟩
    have s1 : w.heap.size ≤ w1.heap.size := by have := hb1.size; first | omega | (simp at this; omega)
    have E1 : Hid (Ex w w1) := Lib.hid (by first | exact (Ex.refl w).trans hb1 | exact ((Ex.refl w).alloc _).trans hb1 | exact (((Ex.refl w).alloc _).alloc _).trans hb1 | exact ((((Ex.refl w).alloc _).alloc _).alloc _).trans hb1 | exact (((((Ex.refl w).alloc _).alloc _).alloc _).alloc _).trans hb1 | exact ((((((Ex.refl w).alloc _).alloc _).alloc _).alloc _).alloc _).trans hb1 | exact (((((((Ex.refl w).alloc _).alloc _).alloc _).alloc _).alloc _).alloc _).trans hb1)
    have KX : Hid (Blk w1 (w.heap.size) 25 [.slice (some ⟨a1, o1, none⟩) t.lines.length c, .int .i64 t.hand]) := Lib.hid (by first | exact (Blk.new_at _ _ _ (by simp)).ex hb1 | exact ((Blk.new_at _ _ _ (by simp)).alloc _).ex hb1 | exact (((Blk.new_at _ _ _ (by simp)).alloc _).alloc _).ex hb1 | exact ((((Blk.new_at _ _ _ (by simp)).alloc _).alloc _).alloc _).ex hb1 | exact (((((Blk.new_at _ _ _ (by simp)).alloc _).alloc _).alloc _).alloc _).ex hb1)
    obtain ⟨qX0, qX1⟩ := KX.out.c2
    have lX := KX.out.lt
    have KR : Hid (Blk w1 (w.heap.size + 1) 25 [.slice none 0 0, .int .i64 0]) := Lib.hid (by first | exact (Blk.new_at _ _ _ (by simp)).ex hb1 | exact ((Blk.new_at _ _ _ (by simp)).alloc _).ex hb1 | exact (((Blk.new_at _ _ _ (by simp)).alloc _).alloc _).ex hb1 | exact ((((Blk.new_at _ _ _ (by simp)).alloc _).alloc _).alloc _).ex hb1 | exact (((((Blk.new_at _ _ _ (by simp)).alloc _).alloc _).alloc _).alloc _).ex hb1)
    obtain ⟨qR0, qR1⟩ := KR.out.c2
    have lR := KR.out.lt
    have HB1 := Lib.hid hb1; clear hb1
    rw [hv]
    go_wp2_with fail
    refine (within_c k t.lines.length _).mono ?_
    rintro r w2 ⟨rfl, rfl⟩
    rw [hk]
    obtain ⟨x', hb1, hxk', h0, h1, h2, h3, h4, h5⟩ := Rd.line_known (HX.out.ex E1.out) (k := k) hkn
    obtain rfl : (⟨true, xt, xp, xf, xr, xw⟩ : LineD) = x' := by have := HXK.out; rw [hxk'] at this; injection this with this; exact this.symm
    simp only at h0 h1 h2 h3 h4 h5
    go_wp2_with fail
    refine (with_c t k ⟨true, xt, xp, xf, xr, b⟩ _ c _ ((HX.out.ex E1.out).alloc _) hn hc hc2 hkn).mono ?_; rintro r w2 ⟨A2, rfl, hf2, hb2⟩
    have s2 : w1.heap.size ≤ w2.heap.size := by have := hb2.size; first | omega | (simp at this; omega)
    have E2 : Hid (Ex w w2) := Lib.hid (by first | exact E1.out.trans hb2 | exact (E1.out.alloc _).trans hb2 | exact ((E1.out.alloc _).alloc _).trans hb2 | exact (((E1.out.alloc _).alloc _).alloc _).trans hb2 | exact ((((E1.out.alloc _).alloc _).alloc _).alloc _).trans hb2 | exact (((((E1.out.alloc _).alloc _).alloc _).alloc _).alloc _).trans hb2 | exact ((((((E1.out.alloc _).alloc _).alloc _).alloc _).alloc _).alloc _).trans hb2)
    clear qX0 qX1 lX
    replace KX : Hid (Blk w2 (w.heap.size) 25 [.slice (some ⟨a1, o1, none⟩) t.lines.length c, .int .i64 t.hand]) := Lib.hid (by first | exact KX.out.ex hb2 | exact (KX.out.alloc _).ex hb2 | exact ((KX.out.alloc _).alloc _).ex hb2 | exact (((KX.out.alloc _).alloc _).alloc _).ex hb2 | exact ((((KX.out.alloc _).alloc _).alloc _).alloc _).ex hb2)
    obtain ⟨qX0, qX1⟩ := KX.out.c2
    have lX := KX.out.lt
    clear qR0 qR1 lR
    replace KR : Hid (Blk w2 (w.heap.size + 1) 25 [.slice none 0 0, .int .i64 0]) := Lib.hid (by first | exact KR.out.ex hb2 | exact (KR.out.alloc _).ex hb2 | exact ((KR.out.alloc _).alloc _).ex hb2 | exact (((KR.out.alloc _).alloc _).alloc _).ex hb2 | exact ((((KR.out.alloc _).alloc _).alloc _).alloc _).ex hb2)
    obtain ⟨qR0, qR1⟩ := KR.out.c2
    have lR := KR.out.lt
    have HB2 := Lib.hid hb2; clear hb2
    have HF2 := Lib.hid hf2; clear hf2
    have hn2 : (t.lines.set k (⟨true, xt, xp, xf, xr, b⟩ : LineD)).length = t.lines.length := List.length_set
    have HV2 : Hid (∀ w', Rd w' A2 (t.lines.set k ⟨true, xt, xp, xf, xr, b⟩) → Calls Try.prog 31 #[.agg #[.slice A2 t.lines.length t.lines.length, .int .i64 t.hand]] w' fun r w'' => r = .returned (.bool false) ∧ Ex w' w'') := Lib.hid (fun w' hr => by
      have := cacheValidI_c ⟨t.lines.set k ⟨true, xt, xp, xf, xr, b⟩, t.hand⟩ A2 t.lines.length w' hr (by simp; omega) (by simp)
      rw [hco] at this
      simpa using this)
    go_wp2_with fail
    refine (HV2.out _ (HF2.out.rd.alloc _)).mono ?_; rintro r w3 ⟨rfl, hb3⟩
    have s3 : w2.heap.size ≤ w3.heap.size := by have := hb3.size; first | omega | (simp at this; omega)
    have E3 : Hid (Ex w w3) := Lib.hid (by first | exact E2.out.trans hb3 | exact (E2.out.alloc _).trans hb3 | exact ((E2.out.alloc _).alloc _).trans hb3 | exact (((E2.out.alloc _).alloc _).alloc _).trans hb3 | exact ((((E2.out.alloc _).alloc _).alloc _).alloc _).trans hb3 | exact (((((E2.out.alloc _).alloc _).alloc _).alloc _).alloc _).trans hb3 | exact ((((((E2.out.alloc _).alloc _).alloc _).alloc _).alloc _).alloc _).trans hb3)
    clear qX0 qX1 lX
    replace KX : Hid (Blk w3 (w.heap.size) 25 [.slice (some ⟨a1, o1, none⟩) t.lines.length c, .int .i64 t.hand]) := Lib.hid (by first | exact KX.out.ex hb3 | exact (KX.out.alloc _).ex hb3 | exact ((KX.out.alloc _).alloc _).ex hb3 | exact (((KX.out.alloc _).alloc _).alloc _).ex hb3 | exact ((((KX.out.alloc _).alloc _).alloc _).alloc _).ex hb3)
    obtain ⟨qX0, qX1⟩ := KX.out.c2
    have lX := KX.out.lt
    clear qR0 qR1 lR
    replace KR : Hid (Blk w3 (w.heap.size + 1) 25 [.slice none 0 0, .int .i64 0]) := Lib.hid (by first | exact KR.out.ex hb3 | exact (KR.out.alloc _).ex hb3 | exact ((KR.out.alloc _).alloc _).ex hb3 | exact (((KR.out.alloc _).alloc _).alloc _).ex hb3 | exact ((((KR.out.alloc _).alloc _).alloc _).alloc _).ex hb3)
    obtain ⟨qR0, qR1⟩ := KR.out.c2
    have lR := KR.out.lt
    have HB3 := Lib.hid hb3; clear hb3
    have rfz := KR.out.frozen
    go_wp2
    exact bodyPost_ret (v := .tuple #[.agg #[.slice none 0 0, .int .i64 0], .bool false]) (by simp [results, Try.results28, go_sem, qR0, qR1]) rfl
      ⟨none, 0, rfl, Fr.none_ _ _ _ _, (E3.out.set (Nat.le_add_right _ 1) _).set (Nat.le_add_right _ 1) _⟩
  · have e : wireLine t k b = (⟨t.lines.set k ⟨true, xt, xp, xf, xr, b⟩, t.hand⟩, true) := by
      unfold wireLine
      rw [Int.toNat_natCast, hgd, hco, hce, if_pos ⟨hv, hk, rfl, rfl⟩]
    rw [e]
    clear e
    rw [hce] at hco
    go_enter Try.func28, Try.ntmps28
    go_wp2_with fail
    refine (cacheValidI_c t _ c _ ((HX.out.alloc _).alloc _) hn hc).mono ?_; rintro r w1 ⟨rfl, hb1⟩
    have s1 : w.heap.size ≤ w1.heap.size := by have := hb1.size; first | omega | (simp at this; omega)
    have E1 : Hid (Ex w w1) := Lib.hid (by first | exact (Ex.refl w).trans hb1 | exact ((Ex.refl w).alloc _).trans hb1 | exact (((Ex.refl w).alloc _).alloc _).trans hb1 | exact ((((Ex.refl w).alloc _).alloc _).alloc _).trans hb1 | exact (((((Ex.refl w).alloc _).alloc _).alloc _).alloc _).trans hb1 | exact ((((((Ex.refl w).alloc _).alloc _).alloc _).alloc _).alloc _).trans hb1 | exact (((((((Ex.refl w).alloc _).alloc _).alloc _).alloc _).alloc _).alloc _).trans hb1)
    have KX : Hid (Blk w1 (w.heap.size) 25 [.slice (some ⟨a1, o1, none⟩) t.lines.length c, .int .i64 t.hand]) := Lib.hid (by first | exact (Blk.new_at _ _ _ (by simp)).ex hb1 | exact ((Blk.new_at _ _ _ (by simp)).alloc _).ex hb1 | exact (((Blk.new_at _ _ _ (by simp)).alloc _).alloc _).ex hb1 | exact ((((Blk.new_at _ _ _ (by simp)).alloc _).alloc _).alloc _).ex hb1 | exact (((((Blk.new_at _ _ _ (by simp)).alloc _).alloc _).alloc _).alloc _).ex hb1)
    obtain ⟨qX0, qX1⟩ := KX.out.c2
    have lX := KX.out.lt
    have KR : Hid (Blk w1 (w.heap.size + 1) 25 [.slice none 0 0, .int .i64 0]) := Lib.hid (by first | exact (Blk.new_at _ _ _ (by simp)).ex hb1 | exact ((Blk.new_at _ _ _ (by simp)).alloc _).ex hb1 | exact (((Blk.new_at _ _ _ (by simp)).alloc _).alloc _).ex hb1 | exact ((((Blk.new_at _ _ _ (by simp)).alloc _).alloc _).alloc _).ex hb1 | exact (((((Blk.new_at _ _ _ (by simp)).alloc _).alloc _).alloc _).alloc _).ex hb1)
    obtain ⟨qR0, qR1⟩ := KR.out.c2
    have lR := KR.out.lt
    have HB1 := Lib.hid hb1; clear hb1
    have HL1 := Lib.hid lR
    rw [hv]
    go_wp2_with fail
    refine (within_c k t.lines.length _).mono ?_
    rintro r w2 ⟨rfl, rfl⟩
    rw [hk]
    obtain ⟨x', hb1, hxk', h0, h1, h2, h3, h4, h5⟩ := Rd.line_known (HX.out.ex E1.out) (k := k) hkn
    obtain rfl : (⟨true, xt, xp, xf, xr, xw⟩ : LineD) = x' := by have := HXK.out; rw [hxk'] at this; injection this with this; exact this.symm
    simp only at h0 h1 h2 h3 h4 h5
    go_wp2_with fail
    refine (with_c t k ⟨true, xt, xp, xf, xr, b⟩ _ c _ ((HX.out.ex E1.out).alloc _) hn hc hc2 hkn).mono ?_; rintro r w2 ⟨A2, rfl, hf2, hb2⟩
    have s2 : w1.heap.size ≤ w2.heap.size := by have := hb2.size; first | omega | (simp at this; omega)
    have E2 : Hid (Ex w w2) := Lib.hid (by first | exact E1.out.trans hb2 | exact (E1.out.alloc _).trans hb2 | exact ((E1.out.alloc _).alloc _).trans hb2 | exact (((E1.out.alloc _).alloc _).alloc _).trans hb2 | exact ((((E1.out.alloc _).alloc _).alloc _).alloc _).trans hb2 | exact (((((E1.out.alloc _).alloc _).alloc _).alloc _).alloc _).trans hb2 | exact ((((((E1.out.alloc _).alloc _).alloc _).alloc _).alloc _).alloc _).trans hb2)
    clear qX0 qX1 lX
    replace KX : Hid (Blk w2 (w.heap.size) 25 [.slice (some ⟨a1, o1, none⟩) t.lines.length c, .int .i64 t.hand]) := Lib.hid (by first | exact KX.out.ex hb2 | exact (KX.out.alloc _).ex hb2 | exact ((KX.out.alloc _).alloc _).ex hb2 | exact (((KX.out.alloc _).alloc _).alloc _).ex hb2 | exact ((((KX.out.alloc _).alloc _).alloc _).alloc _).ex hb2)
    obtain ⟨qX0, qX1⟩ := KX.out.c2
    have lX := KX.out.lt
    clear qR0 qR1 lR
    replace KR : Hid (Blk w2 (w.heap.size + 1) 25 [.slice none 0 0, .int .i64 0]) := Lib.hid (by first | exact KR.out.ex hb2 | exact (KR.out.alloc _).ex hb2 | exact ((KR.out.alloc _).alloc _).ex hb2 | exact (((KR.out.alloc _).alloc _).alloc _).ex hb2 | exact ((((KR.out.alloc _).alloc _).alloc _).alloc _).ex hb2)
    obtain ⟨qR0, qR1⟩ := KR.out.c2
    have lR := KR.out.lt
    have HB2 := Lib.hid hb2; clear hb2
    have HF2 := Lib.hid hf2; clear hf2
    have hn2 : (t.lines.set k (⟨true, xt, xp, xf, xr, b⟩ : LineD)).length = t.lines.length := List.length_set
    have HV2 : Hid (∀ w', Rd w' A2 (t.lines.set k ⟨true, xt, xp, xf, xr, b⟩) → Calls Try.prog 31 #[.agg #[.slice A2 t.lines.length t.lines.length, .int .i64 t.hand]] w' fun r w'' => r = .returned (.bool true) ∧ Ex w' w'') := Lib.hid (fun w' hr => by
      have := cacheValidI_c ⟨t.lines.set k ⟨true, xt, xp, xf, xr, b⟩, t.hand⟩ A2 t.lines.length w' hr (by simp; omega) (by simp)
      rw [hco] at this
      simpa using this)
    go_wp2_with fail
    refine (HV2.out _ (HF2.out.rd.alloc _)).mono ?_; rintro r w3 ⟨rfl, hb3⟩
    have s3 : w2.heap.size ≤ w3.heap.size := by have := hb3.size; first | omega | (simp at this; omega)
    have E3 : Hid (Ex w w3) := Lib.hid (by first | exact E2.out.trans hb3 | exact (E2.out.alloc _).trans hb3 | exact ((E2.out.alloc _).alloc _).trans hb3 | exact (((E2.out.alloc _).alloc _).alloc _).trans hb3 | exact ((((E2.out.alloc _).alloc _).alloc _).alloc _).trans hb3 | exact (((((E2.out.alloc _).alloc _).alloc _).alloc _).alloc _).trans hb3 | exact ((((((E2.out.alloc _).alloc _).alloc _).alloc _).alloc _).alloc _).trans hb3)
    clear qX0 qX1 lX
    replace KX : Hid (Blk w3 (w.heap.size) 25 [.slice (some ⟨a1, o1, none⟩) t.lines.length c, .int .i64 t.hand]) := Lib.hid (by first | exact KX.out.ex hb3 | exact (KX.out.alloc _).ex hb3 | exact ((KX.out.alloc _).alloc _).ex hb3 | exact (((KX.out.alloc _).alloc _).alloc _).ex hb3 | exact ((((KX.out.alloc _).alloc _).alloc _).alloc _).ex hb3)
    obtain ⟨qX0, qX1⟩ := KX.out.c2
    have lX := KX.out.lt
    clear qR0 qR1 lR
    replace KR : Hid (Blk w3 (w.heap.size + 1) 25 [.slice none 0 0, .int .i64 0]) := Lib.hid (by first | exact KR.out.ex hb3 | exact (KR.out.alloc _).ex hb3 | exact ((KR.out.alloc _).alloc _).ex hb3 | exact (((KR.out.alloc _).alloc _).alloc _).ex hb3 | exact ((((KR.out.alloc _).alloc _).alloc _).alloc _).ex hb3)
    obtain ⟨qR0, qR1⟩ := KR.out.c2
    have lR := KR.out.lt
    have KO : Hid (Blk w3 (w2.heap.size) 25 [.slice A2 t.lines.length t.lines.length, .int .i64 t.hand]) := Lib.hid (by first | exact (Blk.new_at _ _ _ (by simp)).ex hb3 | exact ((Blk.new_at _ _ _ (by simp)).alloc _).ex hb3 | exact (((Blk.new_at _ _ _ (by simp)).alloc _).alloc _).ex hb3 | exact ((((Blk.new_at _ _ _ (by simp)).alloc _).alloc _).alloc _).ex hb3 | exact (((((Blk.new_at _ _ _ (by simp)).alloc _).alloc _).alloc _).alloc _).ex hb3)
    obtain ⟨qO0, qO1⟩ := KO.out.c2
    have lO := KO.out.lt
    have HB3 := Lib.hid hb3; clear hb3
    have rfz := KR.out.frozen
    have hlow : w.heap.size + 1 < (w1.alloc (.cells #[.bool true, .int .i64 xt, .int .i64 xp, .int .i64 xf, .int .i64 xr, .bool b] 31)).heap.size := by have := HL1.out; simp; omega
    go_wp2
    exact bodyPost_ret (v := .tuple #[.agg #[.slice A2 t.lines.length t.lines.length, .int .i64 t.hand], .bool true]) (by simp [results, Try.results28, go_sem, qR0, qR1]) rfl
      ⟨A2, t.lines.length, by simp, (((((HF2.out.alloc _).ex HB3.out).set_below hlow _).set_below hlow _).mono (by simp; omega)), (E3.out.set (Nat.le_add_right _ 1) _).set (Nat.le_add_right _ 1) _⟩
end Go.Proofs.Ytcaaficjcghheab
