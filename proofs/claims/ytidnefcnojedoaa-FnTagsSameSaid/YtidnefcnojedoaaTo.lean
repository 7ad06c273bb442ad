/- The place of a space: the program's method (a closure and the library's IndexFunc) and the reference's loop. -/
import Derived.Test.YtidnefcnojedoaaTp
import Derived.Test.YtidnefcnojedoaaTv
import Derived.Test.YtidnefcnojedoaaTs
import Derived.Test.YtidnefcnojedoaaChg
namespace Go.Proofs.Ytidnefcnojedoaa
open Go.ChangeShapes Go.WideShapes Go.ChangeAt Go.RowKit
open Rec (sz cs)
set_option linter.unusedVariables false
set_option maxRecDepth 100000

set_option maxHeartbeats 1000000 in
theorem l5Find_c (t : TagsD) (s : Int) (A : Option Addr) (c : Nat) (w : World) (hx : Rd w A t.owns) (hn : t.owns.length ≤ 1048576) :
    Calls Try.prog 54 #[.agg #[.int .i64 t.count, .int .i64 t.next, .int .i64 t.round, .slice A t.owns.length c], .int .i64 s] w fun r w' => r = .returned (.int .i64 (ownPlace t.owns s)) ∧ Ex w w' := by
  obtain ⟨cnt, nxt, rnd, xs⟩ := t
  simp only at hx hn ⊢
  have B1 := Lib.hid (fun k x => @firstOf_at _ (fun x : OwnD => x.space == s) xs k x)
  have B2 := Lib.hid (@firstOf_none _ (fun x : OwnD => x.space == s) xs)
  unfold ownPlace
  generalize firstOf (fun x : OwnD => x.space == s) xs = res at *
  obtain ⟨n, hn1⟩ : ∃ n, n = xs.length := ⟨_, rfl⟩
  have HN := Lib.hid hn1
  rw [← hn1] at B2 hn ⊢
  have HX := Lib.hid hx
  clear hn1 hx
  go_enter Try.func54, Try.ntmps54
  go_wp2
  obtain ⟨w0, hw0⟩ : ∃ w0 : World, w0 = w.alloc (.cells #[.int .i64 cnt, .int .i64 nxt, .int .i64 rnd, .slice A n c] 25) := ⟨_, rfl⟩
  have E0 : Hid (Ex w w0) := Lib.hid (by rw [hw0]; exact (Ex.refl _).alloc _)
  have K0 : Hid (Blk w0 w.heap.size 25 [.int .i64 cnt, .int .i64 nxt, .int .i64 rnd, .slice A n c]) := Lib.hid (by rw [hw0]; exact Blk.new _ _ _)
  rw [← hw0]
  clear hw0
  go_loopw [5] (fun i wr => ∃ k : Nat, k ≤ n ∧ i = .int .i64 k ∧ Ex w0 wr ∧ ∀ (j : Nat) (y : OwnD), j < k → xs[j]? = some y → (y.space == s) = false) (fun i _ => n - (intOf i).toNat)
  case atStart => exact ⟨0, Nat.zero_le _, rfl, Ex.refl _, fun j y h => by omega⟩
  case round =>
    obtain ⟨k, hk, rfl, hbel, hcl⟩ := hrel
    have HB := Lib.hid hbel
    have HCL := Lib.hid hcl
    clear hbel hcl
    obtain ⟨q0, q1, q2, q3⟩ := (K0.out.ex HB.out).c4
    have lb := (K0.out.ex HB.out).lt
    by_cases hlt : k < n
    · obtain ⟨b1, o1, x, rfl, hb1, hxk, h0, h1⟩ := Rd.own ((HX.out.ex E0.out).ex HB.out) (k := k) (by have := HN.out; omega)
      have HXK := Lib.hid hxk
      clear hxk
      cases hv : (x.space == s)
      · have HV := Lib.hid hv
        go_wp2
        go_roundw
        case rel => exact ⟨k + 1, by omega, by go_num, (by repeat' (first | with_reducible exact HB.out | with_reducible refine Ex.alloc ?_ _ | with_reducible refine Ex.drew ?_ | with_reducible refine Ex.put ?_ (by omega) _)), fun j z hj hz => by
          by_cases e : j = k
          · subst e
            have := HXK.out
            rw [this] at hz
            injection hz with hz
            rw [← hz]; exact HV.out
          · exact HCL.out j z (by omega) hz⟩
        case measure => simp [intOf]; omega
      · obtain rfl : res = (k : Int) := B1.out k x HXK.out hv HCL.out
        go_wp2
        go_ret
        exact ⟨rfl, (by repeat' (first | with_reducible exact E0.out.trans HB.out | with_reducible refine Ex.alloc ?_ _ | with_reducible refine Ex.drew ?_ | with_reducible refine Ex.put ?_ (by omega) _))⟩
    · obtain rfl : k = n := by omega
      obtain rfl : res = -1 := B2.out HCL.out
      go_wp2
      go_ret
      exact ⟨rfl, E0.out.trans HB.out⟩
end Go.Proofs.Ytidnefcnojedoaa
