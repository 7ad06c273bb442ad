/- The place of a space: the program's method (a closure and the library's IndexFunc) and the reference's loop. -/
import Derived.Test.YtihlaecbdlgbiaaDoorTp
import Derived.Test.YtihlaecbdlgbiaaDoorTv
import Derived.Test.YtihlaecbdlgbiaaDoorTs
import Derived.Test.YtihlaecbdlgbiaaDoorChg
namespace Go.Proofs.YtihlaecbdlgbiaaDoor
open Go.ChangeShapes Go.WideShapes Go.ChangeAt Go.RowKit
open Rec (sz cs)
set_option linter.unusedVariables false
set_option maxRecDepth 100000

set_option maxHeartbeats 1000000 in
theorem own1_c (x : OwnD) (s : Int) (w : World) (gs : Nat) (hs : Blk w gs 3 [.int .i64 s]) :
    Calls Tryd.prog 68 #[.agg #[.int .i64 x.space, .int .i64 x.tag], .pointer (some ⟨gs, 0, none⟩)] w fun r w' => r = .returned (.bool (x.space == s)) ∧ Ex w w' := by
  obtain s0 := hs.c1
  have ls := hs.lt
  clear hs
  go_enter Tryd.func68, Tryd.ntmps68
  go_wp2
  go_ret
  exact ⟨rfl, (Ex.refl _).alloc _⟩

set_option maxHeartbeats 1000000 in
theorem indexOwn_c (xs : List OwnD) (s : Int) (A : Option Addr) (c : Nat) (w : World) (gs : Nat) (hx : Rd w A xs) (hn : xs.length ≤ 1048576) (hs : Blk w gs 3 [.int .i64 s]) :
    Calls Tryd.prog 67 #[.slice A xs.length c, .func (.func 68) #[] #[.pointer (some ⟨gs, 0, none⟩)]] w fun r w' => r = .returned (.int .i64 (ownPlace xs s)) ∧ Ex w w' := by
  have B1 := Lib.hid (fun k x => @firstOf_at _ (fun x : OwnD => x.space == s) xs k x)
  have B2 := Lib.hid (@firstOf_none _ (fun x : OwnD => x.space == s) xs)
  unfold ownPlace
  generalize firstOf (fun x : OwnD => x.space == s) xs = res at *
  obtain ⟨n, hn1⟩ : ∃ n, n = xs.length := ⟨_, rfl⟩
  have HN := Lib.hid hn1
  rw [← hn1] at B2 hn ⊢
  have HX := Lib.hid hx
  have HS := Lib.hid hs
  clear hn1 hx hs
  go_enter Tryd.func67, Tryd.ntmps67
  go_wp2
  go_loopw [8] (fun i wr => ∃ k : Nat, k ≤ n ∧ i = .int .i64 k ∧ Ex w wr ∧ ∀ (j : Nat) (y : OwnD), j < k → xs[j]? = some y → (y.space == s) = false) (fun i _ => n - (intOf i).toNat)
  case atStart => exact ⟨0, Nat.zero_le _, rfl, Ex.refl _, fun j y h => by omega⟩
  case round =>
    obtain ⟨k, hk, rfl, hbel, hcl⟩ := hrel
    have HB := Lib.hid hbel
    have HCL := Lib.hid hcl
    clear hbel hcl
    by_cases hlt : k < n
    · obtain ⟨b1, o1, x, rfl, hb1, hxk, h0, h1⟩ := Rd.own (HX.out.ex HB.out) (k := k) (by have := HN.out; omega)
      have HXK := Lib.hid hxk
      clear hxk
      go_wp2_with fail
      refine (own1_c x s _ _ (HS.out.ex HB.out)).mono ?_
      rintro r w2 ⟨rfl, hb2⟩
      have HB2 := Lib.hid hb2
      clear hb2 h0 h1
      cases hv : (x.space == s)
      · have HV := Lib.hid hv
        clear hv
        go_wp2
        go_roundw
        case rel => exact ⟨k + 1, by omega, by go_num, HB.out.trans HB2.out, fun j z hj hz => by
          by_cases e : j = k
          · subst e
            have := HXK.out
            rw [this] at hz
            injection hz with hz
            rw [← hz]; exact HV.out
          · exact HCL.out j z (by omega) hz⟩
        case measure => simp [intOf]; omega
      · obtain rfl : res = (k : Int) := B1.out k x HXK.out hv HCL.out
        clear hv
        go_wp2
        go_ret
        exact ⟨rfl, HB.out.trans HB2.out⟩
    · obtain rfl : k = n := by omega
      obtain rfl : res = -1 := B2.out HCL.out
      go_wp2
      go_ret
      exact ⟨rfl, HB.out⟩

set_option maxHeartbeats 1000000 in
theorem ownI_c (t : TagsD) (s : Int) (A : Option Addr) (c : Nat) (w : World) (hx : Rd w A t.owns) (hn : t.owns.length ≤ 1048576) :
    Calls Tryd.prog 32 #[.agg #[.int .i64 t.count, .int .i64 t.next, .int .i64 t.round, .slice A t.owns.length c], .int .i64 s] w fun r w' => r = .returned (.int .i64 (ownPlace t.owns s)) ∧ Ex w w' := by
  have HX := Lib.hid hx
  clear hx
  have hmf : ∀ (fn : Fn) (first cap : Array Value) (w : World), (Instr.makeFunc fn first cap).run Tryd.prog w = .ok (.func fn first cap) w := fun _ _ _ _ => rfl
  go_enter Tryd.func32, Tryd.ntmps32
  go_wp2_with fail
  refine (indexOwn_c t.owns s A c _ _ ((HX.out.alloc _).alloc _) hn (Blk.new_at _ _ _ (by simp))).mono ?_
  rintro r w2 ⟨rfl, hb2⟩
  have HB2 : Hid (Ex w w2) := Lib.hid ((((Ex.refl w).alloc _).alloc _).trans hb2)
  clear hb2
  go_wp2
  go_ret
  exact ⟨rfl, HB2.out⟩

set_option maxHeartbeats 1000000 in
theorem l5Find_c (t : TagsD) (s : Int) (A : Option Addr) (c : Nat) (w : World) (hx : Rd w A t.owns) (hn : t.owns.length ≤ 1048576) :
    Calls Tryd.prog 24 #[.agg #[.int .i64 t.count, .int .i64 t.next, .int .i64 t.round, .slice A t.owns.length c], .int .i64 s] w fun r w' => r = .returned (.int .i64 (ownPlace t.owns s)) ∧ Ex w w' := by
  obtain ⟨cnt, nxt, rnd, xs⟩ := t
  simp only at hx hn ⊢
  have B1 := Lib.hid (fun k x => @firstOf_at _ (fun x : OwnD => x.space == s) xs k x)
  have B2 := Lib.hid (@firstOf_none _ (fun x : OwnD => x.space == s) xs)
  unfold ownPlace
  generalize firstOf (fun x : OwnD => x.space == s) xs = res at *
  obtain ⟨n, hn1⟩ : ∃ n, n = xs.length := ⟨_, rfl⟩
  have HN := Lib.hid hn1
  rw [← hn1] at B2 hn ⊢
  have HX := Lib.hid hx
  clear hn1 hx
  go_enter Tryd.func24, Tryd.ntmps24
  go_wp2
  obtain ⟨w0, hw0⟩ : ∃ w0 : World, w0 = w.alloc (.cells #[.int .i64 cnt, .int .i64 nxt, .int .i64 rnd, .slice A n c] 44) := ⟨_, rfl⟩
  have E0 : Hid (Ex w w0) := Lib.hid (by rw [hw0]; exact (Ex.refl _).alloc _)
  have K0 : Hid (Blk w0 w.heap.size 44 [.int .i64 cnt, .int .i64 nxt, .int .i64 rnd, .slice A n c]) := Lib.hid (by rw [hw0]; exact Blk.new _ _ _)
  rw [← hw0]
  clear hw0
  go_loopw [5] (fun i wr => ∃ k : Nat, k ≤ n ∧ i = .int .i64 k ∧ Ex w0 wr ∧ ∀ (j : Nat) (y : OwnD), j < k → xs[j]? = some y → (y.space == s) = false) (fun i _ => n - (intOf i).toNat)
  case atStart => exact ⟨0, Nat.zero_le _, rfl, Ex.refl _, fun j y h => by omega⟩
  case round =>
    obtain ⟨k, hk, rfl, hbel, hcl⟩ := hrel
    have HB := Lib.hid hbel
    have HCL := Lib.hid hcl
    clear hbel hcl
    obtain ⟨q0, q1, q2, q3⟩ := (K0.out.ex HB.out).c4
    have lb := (K0.out.ex HB.out).lt
    by_cases hlt : k < n
    · obtain ⟨b1, o1, x, rfl, hb1, hxk, h0, h1⟩ := Rd.own ((HX.out.ex E0.out).ex HB.out) (k := k) (by have := HN.out; omega)
      have HXK := Lib.hid hxk
      clear hxk
      cases hv : (x.space == s)
      · have HV := Lib.hid hv
        go_wp2
        go_roundw
        case rel => exact ⟨k + 1, by omega, by go_num, (by repeat' (first | with_reducible exact HB.out | with_reducible refine Ex.alloc ?_ _ | with_reducible refine Ex.drew ?_ | with_reducible refine Ex.put ?_ (by omega) _)), fun j z hj hz => by
          by_cases e : j = k
          · subst e
            have := HXK.out
            rw [this] at hz
            injection hz with hz
            rw [← hz]; exact HV.out
          · exact HCL.out j z (by omega) hz⟩
        case measure => simp [intOf]; omega
      · obtain rfl : res = (k : Int) := B1.out k x HXK.out hv HCL.out
        go_wp2
        go_ret
        exact ⟨rfl, (by repeat' (first | with_reducible exact E0.out.trans HB.out | with_reducible refine Ex.alloc ?_ _ | with_reducible refine Ex.drew ?_ | with_reducible refine Ex.put ?_ (by omega) _))⟩
    · obtain rfl : k = n := by omega
      obtain rfl : res = -1 := B2.out HCL.out
      go_wp2
      go_ret
      exact ⟨rfl, E0.out.trans HB.out⟩
end Go.Proofs.YtihlaecbdlgbiaaDoor
