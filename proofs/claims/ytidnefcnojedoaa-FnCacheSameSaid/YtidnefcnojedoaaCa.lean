/- The place of a line: the implementation's method and the library's IndexFunc. -/
import Derived.Test.YtidnefcnojedoaaCz
namespace Go.Proofs.Ytidnefcnojedoaa
open Go.ChangeShapes Go.WideShapes Go.ChangeAt Go.RowKit
open Rec (sz cs)
set_option linter.unusedVariables false
set_option maxRecDepth 100000

set_option maxHeartbeats 1000000 in
theorem place1_c (x : LineD) (tag page : Int) (w : World) (gp gt : Nat) (hp : Blk w gp 3 [.int .i64 page]) (ht : Blk w gt 3 [.int .i64 tag]) :
    Calls Try.prog 49 #[.agg #[.bool x.valid, .int .i64 x.tag, .int .i64 x.page, .int .i64 x.frame, .int .i64 x.rights, .bool x.wired], .pointer (some ⟨gp, 0, none⟩), .pointer (some ⟨gt, 0, none⟩)] w fun r w' => r = .returned (.bool (fitsB x tag page)) ∧ Ex w w' := by
  obtain p0 := hp.c1
  obtain t0 := ht.c1
  have lp := hp.lt
  have lt := ht.lt
  clear hp ht
  rcases fits_split x tag page with ⟨h1, e⟩ | ⟨h1, h2, e⟩ | ⟨h1, h2, h3, e⟩ | ⟨h1, h2, h3, h4, e⟩ | ⟨h1, h2, h3, h4, e⟩
  all_goals
    rw [e]
    clear e
    go_enter Try.func49, Try.ntmps49
    go_wp2
    go_ret
    exact ⟨rfl, (Ex.refl _).alloc _⟩

set_option maxHeartbeats 1000000 in
theorem indexPlace_c (xs : List LineD) (tag page : Int) (A : Option Addr) (c : Nat) (w : World) (gp gt : Nat) (hx : Rd w A xs) (hn : xs.length ≤ 1048576) (hp : Blk w gp 3 [.int .i64 page]) (ht : Blk w gt 3 [.int .i64 tag]) :
    Calls Try.prog 48 #[.slice A xs.length c, .func (.func 49) #[] #[.pointer (some ⟨gp, 0, none⟩), .pointer (some ⟨gt, 0, none⟩)]] w fun r w' => r = .returned (.int .i64 (placeOf xs tag page)) ∧ Ex w w' := by
  have B1 := Lib.hid (fun k x => @firstOf_at _ (fun x => fitsB x tag page) xs k x)
  have B2 := Lib.hid (@firstOf_none _ (fun x => fitsB x tag page) xs)
  unfold placeOf
  generalize firstOf (fun x => fitsB x tag page) xs = res at *
  obtain ⟨n, hn1⟩ : ∃ n, n = xs.length := ⟨_, rfl⟩
  have HN := Lib.hid hn1
  rw [← hn1] at B2 hn ⊢
  have HX := Lib.hid hx
  have HP := Lib.hid hp
  have HT := Lib.hid ht
  clear hn1 hx hp ht
  go_enter Try.func48, Try.ntmps48
  go_wp2
  go_loopw [8] (fun i wr => ∃ k : Nat, k ≤ n ∧ i = .int .i64 k ∧ Ex w wr ∧ ∀ (j : Nat) (y : LineD), j < k → xs[j]? = some y → fitsB y tag page = false) (fun i _ => n - (intOf i).toNat)
  case atStart => exact ⟨0, Nat.zero_le _, rfl, Ex.refl _, fun j y h => by omega⟩
  case round =>
    obtain ⟨k, hk, rfl, hbel, hcl⟩ := hrel
    have HB := Lib.hid hbel
    have HCL := Lib.hid hcl
    clear hbel hcl
    by_cases hlt : k < n
    · obtain ⟨b1, o1, x, rfl, hb1, hxk, h0, h1, h2, h3, h4, h5⟩ := Rd.line (HX.out.ex HB.out) (k := k) (by have := HN.out; omega)
      have HXK := Lib.hid hxk
      clear hxk
      go_wp2_with fail
      refine (place1_c x tag page _ _ _ (HP.out.ex HB.out) (HT.out.ex HB.out)).mono ?_
      rintro r w2 ⟨rfl, hb2⟩
      have HB2 := Lib.hid hb2
      clear hb2 h0 h1 h2 h3 h4 h5
      cases hv : fitsB x tag page
      · have HV := Lib.hid hv
        go_wp2
        go_roundw
        case rel => exact ⟨k + 1, by omega, by go_num, HB.out.trans HB2.out, fun j z hj hz => by
          by_cases e : j = k
          · subst e
            have := HXK.out
            rw [this] at hz
            injection hz with hz
            rw [← hz]; exact HV.out
          · exact HCL.out j z (by omega) hz⟩
        case measure => simp [intOf]; omega
      · obtain rfl : res = (k : Int) := B1.out k x HXK.out hv HCL.out
        go_wp2
        go_ret
        exact ⟨rfl, HB.out.trans HB2.out⟩
    · obtain rfl : k = n := by omega
      obtain rfl : res = -1 := B2.out HCL.out
      go_wp2
      go_ret
      exact ⟨rfl, HB.out⟩

set_option maxHeartbeats 1000000 in
theorem placeI_c (t : CacheD) (tag page : Int) (A : Option Addr) (c : Nat) (w : World) (hx : Rd w A t.lines) (hn : t.lines.length ≤ 1048576) :
    Calls Try.prog 31 #[.agg #[.slice A t.lines.length c, .int .i64 t.hand], .int .i64 tag, .int .i64 page] w fun r w' => r = .returned (.int .i64 (placeOf t.lines tag page)) ∧ Ex w w' := by
  have HX := Lib.hid hx
  clear hx
  have hmf : ∀ (fn : Fn) (first cap : Array Value) (w : World), (Instr.makeFunc fn first cap).run Try.prog w = .ok (.func fn first cap) w := fun _ _ _ _ => rfl
  go_enter Try.func31, Try.ntmps31
  go_wp2_with fail
  refine (indexPlace_c t.lines tag page A c _ _ _ (((HX.out.alloc _).alloc _).alloc _) hn (Blk.new_at _ _ _ (by simp)) ((Blk.new_at _ _ _ (by simp)).alloc _)).mono ?_
  rintro r w2 ⟨rfl, hb2⟩
  have HB2 : Hid (Ex w w2) := Lib.hid (((((Ex.refl w).alloc _).alloc _).alloc _).trans hb2)
  clear hb2
  go_wp2
  go_ret
  exact ⟨rfl, HB2.out⟩

def findLine (t : CacheD) (tag page : Int) : Int × Bool :=
  if cacheV t then if tagB tag then if inB page 256 then if 0 ≤ placeOf t.lines tag page then (placeOf t.lines tag page, true) else (0, false) else (0, false) else (0, false) else (0, false)

set_option maxHeartbeats 1000000 in
theorem findLineI_c (t : CacheD) (tag page : Int) (A : Option Addr) (c : Nat) (w : World) (hx : Rd w A t.lines) (hn : t.lines.length ≤ 1048576) (hcap : t.lines.length ≤ c) :
    Calls Try.prog 16 #[.agg #[.slice A t.lines.length c, .int .i64 t.hand], .int .i64 tag, .int .i64 page] w fun r w' => r = .returned (.tuple #[.int .i64 (findLine t tag page).1, .bool (findLine t tag page).2]) ∧ Ex w w' := by
  have HX := Lib.hid hx
  clear hx
  unfold findLine
  cases h1 : cacheV t
  · go_enter Try.func16, Try.ntmps16
    go_wp2_with fail
    refine (cacheValidI_c t A c _ (HX.out.alloc _) hn hcap).mono ?_; rintro r w1 ⟨rfl, hb1⟩
    have s1 : w.heap.size ≤ w1.heap.size := by have := hb1.size; first | omega | (simp at this; omega)
    have E1 : Hid (Ex w w1) := Lib.hid (by first | exact (Ex.refl w).trans hb1 | exact ((Ex.refl w).alloc _).trans hb1 | exact (((Ex.refl w).alloc _).alloc _).trans hb1 | exact ((((Ex.refl w).alloc _).alloc _).alloc _).trans hb1 | exact (((((Ex.refl w).alloc _).alloc _).alloc _).alloc _).trans hb1 | exact ((((((Ex.refl w).alloc _).alloc _).alloc _).alloc _).alloc _).trans hb1 | exact (((((((Ex.refl w).alloc _).alloc _).alloc _).alloc _).alloc _).alloc _).trans hb1)
    have KX : Hid (Blk w1 (w.heap.size) 33 [.slice A t.lines.length c, .int .i64 t.hand]) := Lib.hid (by first | exact (Blk.new_at _ _ _ (by simp)).ex hb1 | exact ((Blk.new_at _ _ _ (by simp)).alloc _).ex hb1 | exact (((Blk.new_at _ _ _ (by simp)).alloc _).alloc _).ex hb1 | exact ((((Blk.new_at _ _ _ (by simp)).alloc _).alloc _).alloc _).ex hb1 | exact (((((Blk.new_at _ _ _ (by simp)).alloc _).alloc _).alloc _).alloc _).ex hb1)
    obtain ⟨qX0, qX1⟩ := KX.out.c2
    have lX := KX.out.lt
    have HB1 := Lib.hid hb1; clear hb1
    rw [h1]
    go_wp2
    go_ret2
    exact ⟨rfl, E1.out⟩
  cases h2 : tagB tag
  · go_enter Try.func16, Try.ntmps16
    go_wp2_with fail
    refine (cacheValidI_c t A c _ (HX.out.alloc _) hn hcap).mono ?_; rintro r w1 ⟨rfl, hb1⟩
    have s1 : w.heap.size ≤ w1.heap.size := by have := hb1.size; first | omega | (simp at this; omega)
    have E1 : Hid (Ex w w1) := Lib.hid (by first | exact (Ex.refl w).trans hb1 | exact ((Ex.refl w).alloc _).trans hb1 | exact (((Ex.refl w).alloc _).alloc _).trans hb1 | exact ((((Ex.refl w).alloc _).alloc _).alloc _).trans hb1 | exact (((((Ex.refl w).alloc _).alloc _).alloc _).alloc _).trans hb1 | exact ((((((Ex.refl w).alloc _).alloc _).alloc _).alloc _).alloc _).trans hb1 | exact (((((((Ex.refl w).alloc _).alloc _).alloc _).alloc _).alloc _).alloc _).trans hb1)
    have KX : Hid (Blk w1 (w.heap.size) 33 [.slice A t.lines.length c, .int .i64 t.hand]) := Lib.hid (by first | exact (Blk.new_at _ _ _ (by simp)).ex hb1 | exact ((Blk.new_at _ _ _ (by simp)).alloc _).ex hb1 | exact (((Blk.new_at _ _ _ (by simp)).alloc _).alloc _).ex hb1 | exact ((((Blk.new_at _ _ _ (by simp)).alloc _).alloc _).alloc _).ex hb1 | exact (((((Blk.new_at _ _ _ (by simp)).alloc _).alloc _).alloc _).alloc _).ex hb1)
    obtain ⟨qX0, qX1⟩ := KX.out.c2
    have lX := KX.out.lt
    have HB1 := Lib.hid hb1; clear hb1
    rw [h1]
    go_wp2_with fail
    refine (tagValid_c tag _).mono ?_
    rintro r w2 ⟨rfl, rfl⟩
    rw [h2]
    go_wp2
    go_ret2
    exact ⟨rfl, E1.out⟩
  cases h3 : inB page 256
  · go_enter Try.func16, Try.ntmps16
    go_wp2_with fail
    refine (cacheValidI_c t A c _ (HX.out.alloc _) hn hcap).mono ?_; rintro r w1 ⟨rfl, hb1⟩
    have s1 : w.heap.size ≤ w1.heap.size := by have := hb1.size; first | omega | (simp at this; omega)
    have E1 : Hid (Ex w w1) := Lib.hid (by first | exact (Ex.refl w).trans hb1 | exact ((Ex.refl w).alloc _).trans hb1 | exact (((Ex.refl w).alloc _).alloc _).trans hb1 | exact ((((Ex.refl w).alloc _).alloc _).alloc _).trans hb1 | exact (((((Ex.refl w).alloc _).alloc _).alloc _).alloc _).trans hb1 | exact ((((((Ex.refl w).alloc _).alloc _).alloc _).alloc _).alloc _).trans hb1 | exact (((((((Ex.refl w).alloc _).alloc _).alloc _).alloc _).alloc _).alloc _).trans hb1)
    have KX : Hid (Blk w1 (w.heap.size) 33 [.slice A t.lines.length c, .int .i64 t.hand]) := Lib.hid (by first | exact (Blk.new_at _ _ _ (by simp)).ex hb1 | exact ((Blk.new_at _ _ _ (by simp)).alloc _).ex hb1 | exact (((Blk.new_at _ _ _ (by simp)).alloc _).alloc _).ex hb1 | exact ((((Blk.new_at _ _ _ (by simp)).alloc _).alloc _).alloc _).ex hb1 | exact (((((Blk.new_at _ _ _ (by simp)).alloc _).alloc _).alloc _).alloc _).ex hb1)
    obtain ⟨qX0, qX1⟩ := KX.out.c2
    have lX := KX.out.lt
    have HB1 := Lib.hid hb1; clear hb1
    rw [h1]
    go_wp2_with fail
    refine (tagValid_c tag _).mono ?_
    rintro r w2 ⟨rfl, rfl⟩
    rw [h2]
    go_wp2_with fail
    refine (within_c page 256 _).mono ?_
    rintro r w2 ⟨rfl, rfl⟩
    rw [h3]
    go_wp2
    go_ret2
    exact ⟨rfl, E1.out⟩
  by_cases h4 : placeOf t.lines tag page < 0
  · have h4' : ¬ 0 ≤ placeOf t.lines tag page := by omega
    go_enter Try.func16, Try.ntmps16
    go_wp2_with fail
    refine (cacheValidI_c t A c _ (HX.out.alloc _) hn hcap).mono ?_; rintro r w1 ⟨rfl, hb1⟩
    have s1 : w.heap.size ≤ w1.heap.size := by have := hb1.size; first | omega | (simp at this; omega)
    have E1 : Hid (Ex w w1) := Lib.hid (by first | exact (Ex.refl w).trans hb1 | exact ((Ex.refl w).alloc _).trans hb1 | exact (((Ex.refl w).alloc _).alloc _).trans hb1 | exact ((((Ex.refl w).alloc _).alloc _).alloc _).trans hb1 | exact (((((Ex.refl w).alloc _).alloc _).alloc _).alloc _).trans hb1 | exact ((((((Ex.refl w).alloc _).alloc _).alloc _).alloc _).alloc _).trans hb1 | exact (((((((Ex.refl w).alloc _).alloc _).alloc _).alloc _).alloc _).alloc _).trans hb1)
    have KX : Hid (Blk w1 (w.heap.size) 33 [.slice A t.lines.length c, .int .i64 t.hand]) := Lib.hid (by first | exact (Blk.new_at _ _ _ (by simp)).ex hb1 | exact ((Blk.new_at _ _ _ (by simp)).alloc _).ex hb1 | exact (((Blk.new_at _ _ _ (by simp)).alloc _).alloc _).ex hb1 | exact ((((Blk.new_at _ _ _ (by simp)).alloc _).alloc _).alloc _).ex hb1 | exact (((((Blk.new_at _ _ _ (by simp)).alloc _).alloc _).alloc _).alloc _).ex hb1)
    obtain ⟨qX0, qX1⟩ := KX.out.c2
    have lX := KX.out.lt
    have HB1 := Lib.hid hb1; clear hb1
    rw [h1]
    go_wp2_with fail
    refine (tagValid_c tag _).mono ?_
    rintro r w2 ⟨rfl, rfl⟩
    rw [h2]
    go_wp2_with fail
    refine (within_c page 256 _).mono ?_
    rintro r w2 ⟨rfl, rfl⟩
    rw [h3]
    go_wp2_with fail
    refine (placeI_c t tag page A c _ (HX.out.ex E1.out) hn).mono ?_; rintro r w2 ⟨rfl, hb2⟩
    have s2 : w1.heap.size ≤ w2.heap.size := by have := hb2.size; first | omega | (simp at this; omega)
    have E2 : Hid (Ex w w2) := Lib.hid (by first | exact E1.out.trans hb2 | exact (E1.out.alloc _).trans hb2 | exact ((E1.out.alloc _).alloc _).trans hb2 | exact (((E1.out.alloc _).alloc _).alloc _).trans hb2 | exact ((((E1.out.alloc _).alloc _).alloc _).alloc _).trans hb2 | exact (((((E1.out.alloc _).alloc _).alloc _).alloc _).alloc _).trans hb2 | exact ((((((E1.out.alloc _).alloc _).alloc _).alloc _).alloc _).alloc _).trans hb2)
    clear qX0 qX1 lX
    replace KX : Hid (Blk w2 (w.heap.size) 33 [.slice A t.lines.length c, .int .i64 t.hand]) := Lib.hid (by first | exact KX.out.ex hb2 | exact (KX.out.alloc _).ex hb2 | exact ((KX.out.alloc _).alloc _).ex hb2 | exact (((KX.out.alloc _).alloc _).alloc _).ex hb2 | exact ((((KX.out.alloc _).alloc _).alloc _).alloc _).ex hb2)
    obtain ⟨qX0, qX1⟩ := KX.out.c2
    have lX := KX.out.lt
    have HB2 := Lib.hid hb2; clear hb2
    go_wp2
    go_ret2
    exact ⟨by simp [*], E2.out⟩
  · have h4' : 0 ≤ placeOf t.lines tag page := by omega
    go_enter Try.func16, Try.ntmps16
    go_wp2_with fail
    refine (cacheValidI_c t A c _ (HX.out.alloc _) hn hcap).mono ?_; rintro r w1 ⟨rfl, hb1⟩
    have s1 : w.heap.size ≤ w1.heap.size := by have := hb1.size; first | omega | (simp at this; omega)
    have E1 : Hid (Ex w w1) := Lib.hid (by first | exact (Ex.refl w).trans hb1 | exact ((Ex.refl w).alloc _).trans hb1 | exact (((Ex.refl w).alloc _).alloc _).trans hb1 | exact ((((Ex.refl w).alloc _).alloc _).alloc _).trans hb1 | exact (((((Ex.refl w).alloc _).alloc _).alloc _).alloc _).trans hb1 | exact ((((((Ex.refl w).alloc _).alloc _).alloc _).alloc _).alloc _).trans hb1 | exact (((((((Ex.refl w).alloc _).alloc _).alloc _).alloc _).alloc _).alloc _).trans hb1)
    have KX : Hid (Blk w1 (w.heap.size) 33 [.slice A t.lines.length c, .int .i64 t.hand]) := Lib.hid (by first | exact (Blk.new_at _ _ _ (by simp)).ex hb1 | exact ((Blk.new_at _ _ _ (by simp)).alloc _).ex hb1 | exact (((Blk.new_at _ _ _ (by simp)).alloc _).alloc _).ex hb1 | exact ((((Blk.new_at _ _ _ (by simp)).alloc _).alloc _).alloc _).ex hb1 | exact (((((Blk.new_at _ _ _ (by simp)).alloc _).alloc _).alloc _).alloc _).ex hb1)
    obtain ⟨qX0, qX1⟩ := KX.out.c2
    have lX := KX.out.lt
    have HB1 := Lib.hid hb1; clear hb1
    rw [h1]
    go_wp2_with fail
    refine (tagValid_c tag _).mono ?_
    rintro r w2 ⟨rfl, rfl⟩
    rw [h2]
    go_wp2_with fail
    refine (within_c page 256 _).mono ?_
    rintro r w2 ⟨rfl, rfl⟩
    rw [h3]
    go_wp2_with fail
    refine (placeI_c t tag page A c _ (HX.out.ex E1.out) hn).mono ?_; rintro r w2 ⟨rfl, hb2⟩
    have s2 : w1.heap.size ≤ w2.heap.size := by have := hb2.size; first | omega | (simp at this; omega)
    have E2 : Hid (Ex w w2) := Lib.hid (by first | exact E1.out.trans hb2 | exact (E1.out.alloc _).trans hb2 | exact ((E1.out.alloc _).alloc _).trans hb2 | exact (((E1.out.alloc _).alloc _).alloc _).trans hb2 | exact ((((E1.out.alloc _).alloc _).alloc _).alloc _).trans hb2 | exact (((((E1.out.alloc _).alloc _).alloc _).alloc _).alloc _).trans hb2 | exact ((((((E1.out.alloc _).alloc _).alloc _).alloc _).alloc _).alloc _).trans hb2)
    clear qX0 qX1 lX
    replace KX : Hid (Blk w2 (w.heap.size) 33 [.slice A t.lines.length c, .int .i64 t.hand]) := Lib.hid (by first | exact KX.out.ex hb2 | exact (KX.out.alloc _).ex hb2 | exact ((KX.out.alloc _).alloc _).ex hb2 | exact (((KX.out.alloc _).alloc _).alloc _).ex hb2 | exact ((((KX.out.alloc _).alloc _).alloc _).alloc _).ex hb2)
    obtain ⟨qX0, qX1⟩ := KX.out.c2
    have lX := KX.out.lt
    have HB2 := Lib.hid hb2; clear hb2
    go_wp2
    go_ret2
    exact ⟨by simp [*], E2.out⟩

set_option maxHeartbeats 1000000 in
theorem findLineS_c (t : CacheD) (tag page : Int) (A : Option Addr) (c : Nat) (w : World) (hx : Rd w A t.lines) (hn : t.lines.length ≤ 1048576) (hcap : t.lines.length ≤ c) :
    Calls Try.prog 17 #[.agg #[.slice A t.lines.length c, .int .i64 t.hand], .int .i64 tag, .int .i64 page] w fun r w' => r = .returned (.tuple #[.int .i64 (findLine t tag page).1, .bool (findLine t tag page).2]) ∧ Ex w w' := by
  have HX := Lib.hid hx
  clear hx
  unfold findLine
  cases h1 : cacheV t
  · go_enter Try.func17, Try.ntmps17
    go_wp2_with fail
    refine (cacheValidS_c t A c _ (HX.out.alloc _) hn hcap).mono ?_; rintro r w1 ⟨rfl, hb1⟩
    have s1 : w.heap.size ≤ w1.heap.size := by have := hb1.size; first | omega | (simp at this; omega)
    have E1 : Hid (Ex w w1) := Lib.hid (by first | exact (Ex.refl w).trans hb1 | exact ((Ex.refl w).alloc _).trans hb1 | exact (((Ex.refl w).alloc _).alloc _).trans hb1 | exact ((((Ex.refl w).alloc _).alloc _).alloc _).trans hb1 | exact (((((Ex.refl w).alloc _).alloc _).alloc _).alloc _).trans hb1 | exact ((((((Ex.refl w).alloc _).alloc _).alloc _).alloc _).alloc _).trans hb1 | exact (((((((Ex.refl w).alloc _).alloc _).alloc _).alloc _).alloc _).alloc _).trans hb1)
    have KX : Hid (Blk w1 (w.heap.size) 33 [.slice A t.lines.length c, .int .i64 t.hand]) := Lib.hid (by first | exact (Blk.new_at _ _ _ (by simp)).ex hb1 | exact ((Blk.new_at _ _ _ (by simp)).alloc _).ex hb1 | exact (((Blk.new_at _ _ _ (by simp)).alloc _).alloc _).ex hb1 | exact ((((Blk.new_at _ _ _ (by simp)).alloc _).alloc _).alloc _).ex hb1 | exact (((((Blk.new_at _ _ _ (by simp)).alloc _).alloc _).alloc _).alloc _).ex hb1)
    obtain ⟨qX0, qX1⟩ := KX.out.c2
    have lX := KX.out.lt
    have HB1 := Lib.hid hb1; clear hb1
    rw [h1]
    go_wp2
    go_ret2
    exact ⟨rfl, E1.out⟩
  cases h2 : tagB tag
  · go_enter Try.func17, Try.ntmps17
    go_wp2_with fail
    refine (cacheValidS_c t A c _ (HX.out.alloc _) hn hcap).mono ?_; rintro r w1 ⟨rfl, hb1⟩
    have s1 : w.heap.size ≤ w1.heap.size := by have := hb1.size; first | omega | (simp at this; omega)
    have E1 : Hid (Ex w w1) := Lib.hid (by first | exact (Ex.refl w).trans hb1 | exact ((Ex.refl w).alloc _).trans hb1 | exact (((Ex.refl w).alloc _).alloc _).trans hb1 | exact ((((Ex.refl w).alloc _).alloc _).alloc _).trans hb1 | exact (((((Ex.refl w).alloc _).alloc _).alloc _).alloc _).trans hb1 | exact ((((((Ex.refl w).alloc _).alloc _).alloc _).alloc _).alloc _).trans hb1 | exact (((((((Ex.refl w).alloc _).alloc _).alloc _).alloc _).alloc _).alloc _).trans hb1)
    have KX : Hid (Blk w1 (w.heap.size) 33 [.slice A t.lines.length c, .int .i64 t.hand]) := Lib.hid (by first | exact (Blk.new_at _ _ _ (by simp)).ex hb1 | exact ((Blk.new_at _ _ _ (by simp)).alloc _).ex hb1 | exact (((Blk.new_at _ _ _ (by simp)).alloc _).alloc _).ex hb1 | exact ((((Blk.new_at _ _ _ (by simp)).alloc _).alloc _).alloc _).ex hb1 | exact (((((Blk.new_at _ _ _ (by simp)).alloc _).alloc _).alloc _).alloc _).ex hb1)
    obtain ⟨qX0, qX1⟩ := KX.out.c2
    have lX := KX.out.lt
    have HB1 := Lib.hid hb1; clear hb1
    rw [h1]
    go_wp2_with fail
    refine (l4Tag_c tag _).mono ?_
    rintro r w2 ⟨rfl, rfl⟩
    rw [h2]
    go_wp2
    go_ret2
    exact ⟨rfl, E1.out⟩
  cases h3 : inB page 256
  · go_enter Try.func17, Try.ntmps17
    go_wp2_with fail
    refine (cacheValidS_c t A c _ (HX.out.alloc _) hn hcap).mono ?_; rintro r w1 ⟨rfl, hb1⟩
    have s1 : w.heap.size ≤ w1.heap.size := by have := hb1.size; first | omega | (simp at this; omega)
    have E1 : Hid (Ex w w1) := Lib.hid (by first | exact (Ex.refl w).trans hb1 | exact ((Ex.refl w).alloc _).trans hb1 | exact (((Ex.refl w).alloc _).alloc _).trans hb1 | exact ((((Ex.refl w).alloc _).alloc _).alloc _).trans hb1 | exact (((((Ex.refl w).alloc _).alloc _).alloc _).alloc _).trans hb1 | exact ((((((Ex.refl w).alloc _).alloc _).alloc _).alloc _).alloc _).trans hb1 | exact (((((((Ex.refl w).alloc _).alloc _).alloc _).alloc _).alloc _).alloc _).trans hb1)
    have KX : Hid (Blk w1 (w.heap.size) 33 [.slice A t.lines.length c, .int .i64 t.hand]) := Lib.hid (by first | exact (Blk.new_at _ _ _ (by simp)).ex hb1 | exact ((Blk.new_at _ _ _ (by simp)).alloc _).ex hb1 | exact (((Blk.new_at _ _ _ (by simp)).alloc _).alloc _).ex hb1 | exact ((((Blk.new_at _ _ _ (by simp)).alloc _).alloc _).alloc _).ex hb1 | exact (((((Blk.new_at _ _ _ (by simp)).alloc _).alloc _).alloc _).alloc _).ex hb1)
    obtain ⟨qX0, qX1⟩ := KX.out.c2
    have lX := KX.out.lt
    have HB1 := Lib.hid hb1; clear hb1
    rw [h1]
    go_wp2_with fail
    refine (l4Tag_c tag _).mono ?_
    rintro r w2 ⟨rfl, rfl⟩
    rw [h2]
    go_wp2_with fail
    refine (l1Page_c page _).mono ?_
    rintro r w2 ⟨rfl, rfl⟩
    rw [h3]
    go_wp2
    go_ret2
    exact ⟨rfl, E1.out⟩
  by_cases h4 : placeOf t.lines tag page < 0
  · have h4' : ¬ 0 ≤ placeOf t.lines tag page := by omega
    go_enter Try.func17, Try.ntmps17
    go_wp2_with fail
    refine (cacheValidS_c t A c _ (HX.out.alloc _) hn hcap).mono ?_; rintro r w1 ⟨rfl, hb1⟩
    have s1 : w.heap.size ≤ w1.heap.size := by have := hb1.size; first | omega | (simp at this; omega)
    have E1 : Hid (Ex w w1) := Lib.hid (by first | exact (Ex.refl w).trans hb1 | exact ((Ex.refl w).alloc _).trans hb1 | exact (((Ex.refl w).alloc _).alloc _).trans hb1 | exact ((((Ex.refl w).alloc _).alloc _).alloc _).trans hb1 | exact (((((Ex.refl w).alloc _).alloc _).alloc _).alloc _).trans hb1 | exact ((((((Ex.refl w).alloc _).alloc _).alloc _).alloc _).alloc _).trans hb1 | exact (((((((Ex.refl w).alloc _).alloc _).alloc _).alloc _).alloc _).alloc _).trans hb1)
    have KX : Hid (Blk w1 (w.heap.size) 33 [.slice A t.lines.length c, .int .i64 t.hand]) := Lib.hid (by first | exact (Blk.new_at _ _ _ (by simp)).ex hb1 | exact ((Blk.new_at _ _ _ (by simp)).alloc _).ex hb1 | exact (((Blk.new_at _ _ _ (by simp)).alloc _).alloc _).ex hb1 | exact ((((Blk.new_at _ _ _ (by simp)).alloc _).alloc _).alloc _).ex hb1 | exact (((((Blk.new_at _ _ _ (by simp)).alloc _).alloc _).alloc _).alloc _).ex hb1)
    obtain ⟨qX0, qX1⟩ := KX.out.c2
    have lX := KX.out.lt
    have HB1 := Lib.hid hb1; clear hb1
    rw [h1]
    go_wp2_with fail
    refine (l4Tag_c tag _).mono ?_
    rintro r w2 ⟨rfl, rfl⟩
    rw [h2]
    go_wp2_with fail
    refine (l1Page_c page _).mono ?_
    rintro r w2 ⟨rfl, rfl⟩
    rw [h3]
    go_wp2_with fail
    refine (l4Find_c t tag page A c _ (HX.out.ex E1.out) hn).mono ?_; rintro r w2 ⟨rfl, hb2⟩
    have s2 : w1.heap.size ≤ w2.heap.size := by have := hb2.size; first | omega | (simp at this; omega)
    have E2 : Hid (Ex w w2) := Lib.hid (by first | exact E1.out.trans hb2 | exact (E1.out.alloc _).trans hb2 | exact ((E1.out.alloc _).alloc _).trans hb2 | exact (((E1.out.alloc _).alloc _).alloc _).trans hb2 | exact ((((E1.out.alloc _).alloc _).alloc _).alloc _).trans hb2 | exact (((((E1.out.alloc _).alloc _).alloc _).alloc _).alloc _).trans hb2 | exact ((((((E1.out.alloc _).alloc _).alloc _).alloc _).alloc _).alloc _).trans hb2)
    clear qX0 qX1 lX
    replace KX : Hid (Blk w2 (w.heap.size) 33 [.slice A t.lines.length c, .int .i64 t.hand]) := Lib.hid (by first | exact KX.out.ex hb2 | exact (KX.out.alloc _).ex hb2 | exact ((KX.out.alloc _).alloc _).ex hb2 | exact (((KX.out.alloc _).alloc _).alloc _).ex hb2 | exact ((((KX.out.alloc _).alloc _).alloc _).alloc _).ex hb2)
    obtain ⟨qX0, qX1⟩ := KX.out.c2
    have lX := KX.out.lt
    have HB2 := Lib.hid hb2; clear hb2
    go_wp2
    go_ret2
    exact ⟨by simp [*], E2.out⟩
  · have h4' : 0 ≤ placeOf t.lines tag page := by omega
    go_enter Try.func17, Try.ntmps17
    go_wp2_with fail
    refine (cacheValidS_c t A c _ (HX.out.alloc _) hn hcap).mono ?_; rintro r w1 ⟨rfl, hb1⟩
    have s1 : w.heap.size ≤ w1.heap.size := by have := hb1.size; first | omega | (simp at this; omega)
    have E1 : Hid (Ex w w1) := Lib.hid (by first | exact (Ex.refl w).trans hb1 | exact ((Ex.refl w).alloc _).trans hb1 | exact (((Ex.refl w).alloc _).alloc _).trans hb1 | exact ((((Ex.refl w).alloc _).alloc _).alloc _).trans hb1 | exact (((((Ex.refl w).alloc _).alloc _).alloc _).alloc _).trans hb1 | exact ((((((Ex.refl w).alloc _).alloc _).alloc _).alloc _).alloc _).trans hb1 | exact (((((((Ex.refl w).alloc _).alloc _).alloc _).alloc _).alloc _).alloc _).trans hb1)
    have KX : Hid (Blk w1 (w.heap.size) 33 [.slice A t.lines.length c, .int .i64 t.hand]) := Lib.hid (by first | exact (Blk.new_at _ _ _ (by simp)).ex hb1 | exact ((Blk.new_at _ _ _ (by simp)).alloc _).ex hb1 | exact (((Blk.new_at _ _ _ (by simp)).alloc _).alloc _).ex hb1 | exact ((((Blk.new_at _ _ _ (by simp)).alloc _).alloc _).alloc _).ex hb1 | exact (((((Blk.new_at _ _ _ (by simp)).alloc _).alloc _).alloc _).alloc _).ex hb1)
    obtain ⟨qX0, qX1⟩ := KX.out.c2
    have lX := KX.out.lt
    have HB1 := Lib.hid hb1; clear hb1
    rw [h1]
    go_wp2_with fail
    refine (l4Tag_c tag _).mono ?_
    rintro r w2 ⟨rfl, rfl⟩
    rw [h2]
    go_wp2_with fail
    refine (l1Page_c page _).mono ?_
    rintro r w2 ⟨rfl, rfl⟩
    rw [h3]
    go_wp2_with fail
    refine (l4Find_c t tag page A c _ (HX.out.ex E1.out) hn).mono ?_; rintro r w2 ⟨rfl, hb2⟩
    have s2 : w1.heap.size ≤ w2.heap.size := by have := hb2.size; first | omega | (simp at this; omega)
    have E2 : Hid (Ex w w2) := Lib.hid (by first | exact E1.out.trans hb2 | exact (E1.out.alloc _).trans hb2 | exact ((E1.out.alloc _).alloc _).trans hb2 | exact (((E1.out.alloc _).alloc _).alloc _).trans hb2 | exact ((((E1.out.alloc _).alloc _).alloc _).alloc _).trans hb2 | exact (((((E1.out.alloc _).alloc _).alloc _).alloc _).alloc _).trans hb2 | exact ((((((E1.out.alloc _).alloc _).alloc _).alloc _).alloc _).alloc _).trans hb2)
    clear qX0 qX1 lX
    replace KX : Hid (Blk w2 (w.heap.size) 33 [.slice A t.lines.length c, .int .i64 t.hand]) := Lib.hid (by first | exact KX.out.ex hb2 | exact (KX.out.alloc _).ex hb2 | exact ((KX.out.alloc _).alloc _).ex hb2 | exact (((KX.out.alloc _).alloc _).alloc _).ex hb2 | exact ((((KX.out.alloc _).alloc _).alloc _).alloc _).ex hb2)
    obtain ⟨qX0, qX1⟩ := KX.out.c2
    have lX := KX.out.lt
    have HB2 := Lib.hid hb2; clear hb2
    go_wp2
    go_ret2
    exact ⟨by simp [*], E2.out⟩
end Go.Proofs.Ytidnefcnojedoaa
