/- Finding a line: place, l4Find, FindLine. -/
import Derived.Test.YtidnefcnojedoaaCx
import Derived.Test.YtidnefcnojedoaaFo
namespace Go.Proofs.Ytidnefcnojedoaa
open Go.ChangeShapes Go.WideShapes Go.ChangeAt Go.RowKit
open Rec (sz cs)
set_option linter.unusedVariables false
set_option maxRecDepth 100000

def fitsB (x : LineD) (tag page : Int) : Bool := x.valid && ((x.page == page) && ((x.tag == tag) || (x.tag == -1)))
theorem fits_split (x : LineD) (tag page : Int) :
    (x.valid = false ∧ fitsB x tag page = false) ∨ (x.valid = true ∧ (x.page == page) = false ∧ fitsB x tag page = false) ∨ (x.valid = true ∧ (x.page == page) = true ∧ (x.tag == tag) = true ∧ fitsB x tag page = true) ∨
    (x.valid = true ∧ (x.page == page) = true ∧ (x.tag == tag) = false ∧ (x.tag == -1) = true ∧ fitsB x tag page = true) ∨ (x.valid = true ∧ (x.page == page) = true ∧ (x.tag == tag) = false ∧ (x.tag == -1) = false ∧ fitsB x tag page = false) := by
  unfold fitsB
  cases x.valid <;> cases (x.page == page) <;> cases (x.tag == tag) <;> cases (x.tag == -1) <;> simp

def placeOf (xs : List LineD) (tag page : Int) : Int := firstOf (fun x => fitsB x tag page) xs

set_option maxHeartbeats 1000000 in
theorem l4Fits_c (x : LineD) (tag page : Int) (w : World) : Calls Try.prog 51 #[.agg #[.bool x.valid, .int .i64 x.tag, .int .i64 x.page, .int .i64 x.frame, .int .i64 x.rights, .bool x.wired], .int .i64 tag, .int .i64 page] w fun r w' => r = .returned (.bool (fitsB x tag page)) ∧ Ex w w' := by
  rcases fits_split x tag page with ⟨h1, e⟩ | ⟨h1, h2, e⟩ | ⟨h1, h2, h3, e⟩ | ⟨h1, h2, h3, h4, e⟩ | ⟨h1, h2, h3, h4, e⟩
  all_goals
    rw [e]
    clear e
    go_enter Try.func51, Try.ntmps51
    go_wp2
    go_ret
    exact ⟨rfl, (Ex.refl _).alloc _⟩

set_option maxHeartbeats 1000000 in
theorem l4Find_c (t : CacheD) (tag page : Int) (A : Option Addr) (c : Nat) (w : World) (hx : Rd w A t.lines) (hn : t.lines.length ≤ 1048576) :
    Calls Try.prog 35 #[.agg #[.slice A t.lines.length c, .int .i64 t.hand], .int .i64 tag, .int .i64 page] w fun r w' => r = .returned (.int .i64 (placeOf t.lines tag page)) ∧ Ex w w' := by
  obtain ⟨xs, hand⟩ := t
  simp only at hx hn ⊢
  have B1 := Lib.hid (fun k x => @firstOf_at _ (fun x => fitsB x tag page) xs k x)
  have B2 := Lib.hid (@firstOf_none _ (fun x => fitsB x tag page) xs)
  unfold placeOf
  generalize firstOf (fun x => fitsB x tag page) xs = res at *
  obtain ⟨n, hn1⟩ : ∃ n, n = xs.length := ⟨_, rfl⟩
  have HN := Lib.hid hn1
  rw [← hn1] at B2 hn ⊢
  have HX := Lib.hid hx
  clear hn1 hx
  go_enter Try.func35, Try.ntmps35
  go_wp2
  obtain ⟨w0, hw0⟩ : ∃ w0 : World, w0 = w.alloc (.cells #[.slice A n c, .int .i64 hand] 33) := ⟨_, rfl⟩
  obtain ⟨gb, hgb⟩ : ∃ gb : Nat, gb = w.heap.size := ⟨_, rfl⟩
  have K0 : Hid (Blk w0 gb 33 [.slice A n c, .int .i64 hand]) := Lib.hid (by rw [hw0, hgb]; exact Blk.new w _ _)
  have E0 : Hid (Ex w w0) := Lib.hid (by rw [hw0]; exact (Ex.refl w).alloc _)
  rw [← hw0, ← hgb]
  clear hw0 hgb
  go_loopw [7] (fun i wr => ∃ k : Nat, k ≤ n ∧ i = .int .i64 k ∧ Ex w0 wr ∧ ∀ (j : Nat) (y : LineD), j < k → xs[j]? = some y → fitsB y tag page = false) (fun i _ => n - (intOf i).toNat)
  case atStart => exact ⟨0, Nat.zero_le _, rfl, Ex.refl _, fun j y h => by omega⟩
  case round =>
    obtain ⟨k, hk, rfl, hbel, hcl⟩ := hrel
    have HB := Lib.hid hbel
    have HCL := Lib.hid hcl
    clear hbel hcl
    obtain ⟨q0, q1⟩ := (K0.out.ex HB.out).c2
    have lb := (K0.out.ex HB.out).lt
    by_cases hlt : k < n
    · obtain ⟨b1, o1, x, rfl, hb1, hxk, h0, h1, h2, h3, h4, h5⟩ := Rd.line ((HX.out.ex E0.out).ex HB.out) (k := k) (by have := HN.out; omega)
      have HXK := Lib.hid hxk
      clear hxk
      go_wp2_with fail
      refine (l4Fits_c x tag page _).mono ?_
      rintro r w2 ⟨rfl, hb2⟩
      have HB2 := Lib.hid hb2
      clear hb2 h0 h1 h2 h3 h4 h5
      cases hv : fitsB x tag page
      · have HV := Lib.hid hv
        go_wp2
        go_roundw
        case rel => exact ⟨k + 1, by omega, by go_num, HB.out.trans HB2.out, fun j z hj hz => by
          by_cases e : j = k
          · subst e
            have := HXK.out
            rw [this] at hz
            injection hz with hz
            rw [← hz]; exact HV.out
          · exact HCL.out j z (by omega) hz⟩
        case measure => simp [intOf]; omega
      · obtain rfl : res = (k : Int) := B1.out k x HXK.out hv HCL.out
        go_wp2
        go_ret
        exact ⟨rfl, (E0.out.trans HB.out).trans HB2.out⟩
    · obtain rfl : k = n := by omega
      obtain rfl : res = -1 := B2.out HCL.out
      go_wp2
      go_ret
      exact ⟨rfl, E0.out.trans HB.out⟩
end Go.Proofs.Ytidnefcnojedoaa
