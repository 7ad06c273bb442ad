/- TagOf and SpaceOf, the program's and the reference's. -/
import Derived.Test.YtihlaecbdlgbiaaDoorTo
import Derived.Deep.RegionHeld3
namespace Go.Proofs.YtihlaecbdlgbiaaDoor
open Go.ChangeShapes Go.WideShapes Go.ChangeAt Go.RowKit
open Rec (sz cs)
set_option linter.unusedVariables false
set_option maxRecDepth 100000

set_option maxHeartbeats 2000000 in
theorem spaceOfI_c (t : TagsD) (g : Int) (A : Option Addr) (c : Nat) (w : World) (hx : Rd w A t.owns) (hn : t.owns.length ≤ 1048576) (hcap : t.owns.length ≤ c) :
    Calls Tryd.prog 33 #[.agg #[.int .i64 t.count, .int .i64 t.next, .int .i64 t.round, .slice A t.owns.length c], .int .i64 g] w fun r w' => r = .returned (.tuple #[.int .i64 (spaceOf t g).1, .bool (spaceOf t g).2]) ∧ Ex w w' := by
  have HX := Lib.hid hx
  clear hx
  cases hv : tagsV t
  · have e : spaceOf t g = (0, false) := if_neg (fun h => by rw [hv] at h; cases h.1)
    rw [e]
    clear e
    go_enter Tryd.func33, Tryd.ntmps33
    go_wp2_with fail
    refine name_calls ?_; intro v1 hv1
    have X1 : Hid (Chg (0) (0) w v1) := Lib.hid (by rw [hv1]; repeat' (first | with_reducible exact Chg.refl _ _ _ | with_reducible refine Chg.alloc ?_ _ | with_reducible refine Chg.drew ?_ | with_reducible refine Chg.set ?_ (by omega) _))
    have t1 : w.heap.size ≤ v1.heap.size := X1.out.size
    have Ev1 : Hid (Ex w v1) := Lib.hid ((Ex.refl w).chg X1.out (by omega))
    have KX : Hid (Blk v1 (w.heap.size) 44 [.int .i64 t.count, .int .i64 t.next, .int .i64 t.round, .slice A t.owns.length c]) := Lib.hid (by rw [hv1]; repeat' (first | with_reducible exact Blk.new_at _ _ _ (by simp) | with_reducible refine Blk.alloc ?_ _ | with_reducible refine Blk.drew ?_ | with_reducible refine Blk.far ?_ (by simp; omega) _))
    have lX : w.heap.size < v1.heap.size := KX.out.lt
    have DX := Lib.hid (HX.out.ex Ev1.out)
    clear hv1
    refine (tagsValidI_c t A c _ DX.out hn hcap).mono ?_; rintro r w1 ⟨rfl, hb1⟩
    have Y1 : Hid (Chg 0 0 v1 w1) := Lib.hid (Chg.of_ex hb1)
    have s1 : v1.heap.size ≤ w1.heap.size := Y1.out.size
    have Ew1 : Hid (Ex w w1) := Lib.hid (Ev1.out.chg Y1.out (by omega))
    clear hb1
    replace KX : Hid (Blk w1 (w.heap.size) 44 [.int .i64 t.count, .int .i64 t.next, .int .i64 t.round, .slice A t.owns.length c]) := Lib.hid (KX.out.chg Y1.out (by omega))
    replace DX := Lib.hid (HX.out.ex Ew1.out)
    obtain ⟨qX0, qX1, qX2, qX3⟩ := KX.out.c4
    have jX := KX.out.lt
    rw [hv]
    go_wp2
    go_ret2
    exact ⟨rfl, Ew1.out⟩
  have B1 : Hid (∀ (k : Nat) (x : OwnD), t.owns[k]? = some x → x.tag = g → spaceOf t g = (x.space, true)) := Lib.hid (fun k x hx e => by rw [← e]; exact spaceOf_of hv hx)
  have B2 : Hid ((∀ (j : Nat) (y : OwnD), j < t.owns.length → t.owns[j]? = some y → (y.tag == g) = false) → spaceOf t g = (0, false)) := Lib.hid (fun h => spaceOf_none fun j y hy => by have := h j y (getElem?_lt hy) hy; simpa using this)
  generalize spaceOf t g = res at *
  go_enter Tryd.func33, Tryd.ntmps33
  go_wp2_with fail
  refine name_calls ?_; intro v1 hv1
  have X1 : Hid (Chg (0) (0) w v1) := Lib.hid (by rw [hv1]; repeat' (first | with_reducible exact Chg.refl _ _ _ | with_reducible refine Chg.alloc ?_ _ | with_reducible refine Chg.drew ?_ | with_reducible refine Chg.set ?_ (by omega) _))
  have t1 : w.heap.size ≤ v1.heap.size := X1.out.size
  have Ev1 : Hid (Ex w v1) := Lib.hid ((Ex.refl w).chg X1.out (by omega))
  have KX : Hid (Blk v1 (w.heap.size) 44 [.int .i64 t.count, .int .i64 t.next, .int .i64 t.round, .slice A t.owns.length c]) := Lib.hid (by rw [hv1]; repeat' (first | with_reducible exact Blk.new_at _ _ _ (by simp) | with_reducible refine Blk.alloc ?_ _ | with_reducible refine Blk.drew ?_ | with_reducible refine Blk.far ?_ (by simp; omega) _))
  have lX : w.heap.size < v1.heap.size := KX.out.lt
  have DX := Lib.hid (HX.out.ex Ev1.out)
  clear hv1
  refine (tagsValidI_c t A c _ DX.out hn hcap).mono ?_; rintro r w1 ⟨rfl, hb1⟩
  have Y1 : Hid (Chg 0 0 v1 w1) := Lib.hid (Chg.of_ex hb1)
  have s1 : v1.heap.size ≤ w1.heap.size := Y1.out.size
  have Ew1 : Hid (Ex w w1) := Lib.hid (Ev1.out.chg Y1.out (by omega))
  clear hb1
  replace KX : Hid (Blk w1 (w.heap.size) 44 [.int .i64 t.count, .int .i64 t.next, .int .i64 t.round, .slice A t.owns.length c]) := Lib.hid (KX.out.chg Y1.out (by omega))
  replace DX := Lib.hid (HX.out.ex Ew1.out)
  obtain ⟨qX0, qX1, qX2, qX3⟩ := KX.out.c4
  have jX := KX.out.lt
  rw [hv]
  obtain ⟨n, hn1⟩ : ∃ n, n = t.owns.length := ⟨_, rfl⟩
  have HN := Lib.hid hn1
  rw [← hn1] at B2 hn KX qX3 ⊢
  clear hn1
  go_wp2
  go_loopw [14] (fun i wr => ∃ k : Nat, k ≤ n ∧ i = .int .i64 k ∧ Ex w1 wr ∧ ∀ (j : Nat) (y : OwnD), j < k → t.owns[j]? = some y → (y.tag == g) = false) (fun i _ => n - (intOf i).toNat)
  case atStart => exact ⟨0, Nat.zero_le _, rfl, Ex.refl _, fun j y h => by omega⟩
  case round =>
    obtain ⟨k, hk, rfl, hbel, hcl⟩ := hrel
    have HB := Lib.hid hbel
    have HCL := Lib.hid hcl
    clear hbel hcl qX0 qX1 qX2 qX3 jX
    by_cases hlt : k < n
    · obtain ⟨b1, o1, x, rfl, hb1, hxk, h0, h1⟩ := Rd.own (DX.out.ex HB.out) (k := k) (by have := HN.out; omega)
      have HXK := Lib.hid hxk
      clear hxk
      cases hv : (x.tag == g)
      · have HV := Lib.hid hv
        go_wp2
        go_roundw
        case rel => exact ⟨k + 1, by omega, by go_num, (by repeat' (first | with_reducible exact HB.out | with_reducible refine Ex.alloc ?_ _ | with_reducible refine Ex.drew ?_ | with_reducible refine Ex.put ?_ (by omega) _)), fun j z hj hz => by
          by_cases e : j = k
          · subst e
            have := HXK.out
            rw [this] at hz
            injection hz with hz
            rw [← hz]; exact HV.out
          · exact HCL.out j z (by omega) hz⟩
        case measure => simp [intOf]; omega
      · obtain rfl : res = (x.space, true) := B1.out k x HXK.out (by simpa using hv)
        go_wp2
        go_ret2
        exact ⟨rfl, (by repeat' (first | with_reducible exact Ew1.out.trans HB.out | with_reducible refine Ex.alloc ?_ _ | with_reducible refine Ex.drew ?_ | with_reducible refine Ex.put ?_ (by omega) _))⟩
    · obtain rfl : k = n := by omega
      obtain rfl : res = (0, false) := B2.out HCL.out
      go_wp2
      go_ret2
      exact ⟨rfl, (by repeat' (first | with_reducible exact Ew1.out.trans HB.out | with_reducible refine Ex.alloc ?_ _ | with_reducible refine Ex.drew ?_ | with_reducible refine Ex.put ?_ (by omega) _))⟩

set_option maxHeartbeats 2000000 in
theorem spaceOfS_c (t : TagsD) (g : Int) (A : Option Addr) (c : Nat) (w : World) (hx : Rd w A t.owns) (hn : t.owns.length ≤ 1048576) (hcap : t.owns.length ≤ c) :
    Calls Tryd.prog 54 #[.agg #[.int .i64 t.count, .int .i64 t.next, .int .i64 t.round, .slice A t.owns.length c], .int .i64 g] w fun r w' => r = .returned (.tuple #[.int .i64 (spaceOf t g).1, .bool (spaceOf t g).2]) ∧ Ex w w' := by
  have HX := Lib.hid hx
  have CV := Lib.hid (fun w' (h : Ex w w') => tagsValidS_c t A c w' (hx.ex h) hn hcap)
  have B1 : Hid (∀ (k : Nat) (x : OwnD), t.owns[k]? = some x → tagsV t = true → x.tag = g → spaceOf t g = (x.space, true)) := Lib.hid (fun k x hx hv e => by rw [← e]; exact spaceOf_of hv hx)
  have B2 : Hid ((∀ (j : Nat) (y : OwnD), j < t.owns.length → t.owns[j]? = some y → (y.tag == g) = false) → spaceOf t g = (0, false)) := Lib.hid (fun h => spaceOf_none fun j y hy => by have := h j y (getElem?_lt hy) hy; simpa using this)
  have B3 : Hid (tagsV t = false → spaceOf t g = (0, false)) := Lib.hid (fun hv => if_neg (fun h => by rw [hv] at h; cases h.1))
  clear hx
  obtain ⟨cnt, nxt, rnd, xs⟩ := t
  simp only at HX CV B1 B2 hn hcap ⊢
  generalize tagsV ⟨cnt, nxt, rnd, xs⟩ = v at CV B1 B3
  generalize spaceOf ⟨cnt, nxt, rnd, xs⟩ g = res at *
  obtain ⟨n, hn1⟩ : ∃ n, n = xs.length := ⟨_, rfl⟩
  have HN := Lib.hid hn1
  rw [← hn1] at B2 hn CV hcap ⊢
  clear hn1
  go_enter Tryd.func54, Tryd.ntmps54
  go_wp2
  obtain ⟨w0, hw0⟩ : ∃ w0 : World, w0 = w.alloc (.cells #[.int .i64 cnt, .int .i64 nxt, .int .i64 rnd, .slice A n c] 44) := ⟨_, rfl⟩
  have E0 : Hid (Ex w w0) := Lib.hid (by rw [hw0]; exact (Ex.refl _).alloc _)
  have K0 : Hid (Blk w0 w.heap.size 44 [.int .i64 cnt, .int .i64 nxt, .int .i64 rnd, .slice A n c]) := Lib.hid (by rw [hw0]; exact Blk.new _ _ _)
  rw [← hw0]
  clear hw0
  go_loopw [6] (fun i wr => ∃ k : Nat, k ≤ n ∧ i = .int .i64 k ∧ Ex w0 wr ∧ ∀ (j : Nat) (y : OwnD), j < k → xs[j]? = some y → (y.tag == g) = false) (fun i _ => n - (intOf i).toNat)
  case atStart => exact ⟨0, Nat.zero_le _, rfl, Ex.refl _, fun j y h => by omega⟩
  case round =>
    obtain ⟨k, hk, rfl, hbel, hcl⟩ := hrel
    have HB := Lib.hid hbel
    have HCL := Lib.hid hcl
    clear hbel hcl
    obtain ⟨q0, q1, q2, q3⟩ := (K0.out.ex HB.out).c4
    have lb := (K0.out.ex HB.out).lt
    by_cases hlt : k < n
    · have hkn : (k : Int) < (n : Int) := by omega
      go_wp2_with fail
      refine (CV.out _ (E0.out.trans HB.out)).mono ?_
      rintro r w2 ⟨rfl, hb2⟩
      have HB2 := Lib.hid (HB.out.trans hb2)
      clear hb2 q0 q1 q2 q3 lb
      cases v
      · obtain rfl : res = (0, false) := B3.out rfl
        go_wp2
        go_ret2
        exact ⟨rfl, E0.out.trans HB2.out⟩
      obtain ⟨b1, o1, x, rfl, hb1, hxk, h0, h1⟩ := Rd.own ((HX.out.ex E0.out).ex HB2.out) (k := k) (by have := HN.out; omega)
      have HXK := Lib.hid hxk
      clear hxk
      obtain ⟨q0, q1, q2, q3⟩ := (K0.out.ex HB2.out).c4
      have lb := (K0.out.ex HB2.out).lt
      cases hv : (x.tag == g)
      · have HV := Lib.hid hv
        go_wp2
        go_roundw
        case rel => exact ⟨k + 1, by omega, by go_num, (by repeat' (first | with_reducible exact HB2.out | with_reducible refine Ex.alloc ?_ _ | with_reducible refine Ex.drew ?_ | with_reducible refine Ex.put ?_ (by omega) _)), fun j z hj hz => by
          by_cases e : j = k
          · subst e
            have := HXK.out
            rw [this] at hz
            injection hz with hz
            rw [← hz]; exact HV.out
          · exact HCL.out j z (by omega) hz⟩
        case measure => simp [intOf]; omega
      · obtain rfl : res = (x.space, true) := B1.out k x HXK.out rfl (by simpa using hv)
        go_wp2
        go_ret2
        exact ⟨rfl, (by repeat' (first | with_reducible exact E0.out.trans HB2.out | with_reducible refine Ex.alloc ?_ _ | with_reducible refine Ex.drew ?_ | with_reducible refine Ex.put ?_ (by omega) _))⟩
    · obtain rfl : k = n := by omega
      obtain rfl : res = (0, false) := B2.out HCL.out
      go_wp2
      go_ret2
      exact ⟨rfl, (by repeat' (first | with_reducible exact E0.out.trans HB.out | with_reducible refine Ex.alloc ?_ _ | with_reducible refine Ex.drew ?_ | with_reducible refine Ex.put ?_ (by omega) _))⟩
end Go.Proofs.YtihlaecbdlgbiaaDoor
