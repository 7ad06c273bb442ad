/- CacheValid: what it decides; the walks of the program's and the reference's. -/
import Derived.Test.YtihlaecbdlgbiaaDoorCv
namespace Go.Proofs.YtihlaecbdlgbiaaDoor
open Go.ChangeShapes Go.WideShapes Go.ChangeAt Go.RowKit
open Rec (sz cs)
set_option linter.unusedVariables false
set_option maxRecDepth 100000

def okAt (xs : List LineD) (i : Nat) : Bool := lineV (xs.getD i noLine) && (List.range i).all fun j => !clashB (xs.getD i noLine) (xs.getD j noLine)
def cacheV (c : CacheD) : Bool := decide (1 ≤ c.lines.length ∧ c.lines.length ≤ 8 ∧ 0 ≤ c.hand ∧ c.hand < c.lines.length) && ((List.range c.lines.length).all (okAt c.lines) && c.lines.any fun x => !x.wired)

def OkUp (xs : List LineD) (k : Nat) : Prop := ∀ i x, i < k → xs[i]? = some x → lineV x = true ∧ ∀ j y, j < i → xs[j]? = some y → clashB x y = false
def looseUp (xs : List LineD) (k : Nat) : Bool := (xs.take k).any fun x => !x.wired

theorem looseUp_succ {xs : List LineD} {k : Nat} {x : LineD} (h : xs[k]? = some x) : looseUp xs (k + 1) = (looseUp xs k || !x.wired) := by
  unfold looseUp
  rw [take_succ_of h, List.any_append]
  simp

theorem getD_of {α : Type} {xs : List α} {i : Nat} {x d : α} (h : xs[i]? = some x) : xs.getD i d = x := by
  rw [List.getD_eq_getElem?_getD, h]; rfl

theorem cacheV_iff (c : CacheD) : cacheV c = true ↔ (1 ≤ c.lines.length ∧ c.lines.length ≤ 8 ∧ 0 ≤ c.hand ∧ c.hand < c.lines.length) ∧ OkUp c.lines c.lines.length ∧ looseUp c.lines c.lines.length = true := by
  unfold cacheV
  rw [Bool.and_eq_true, Bool.and_eq_true, decide_eq_true_iff]
  have h1 : ((List.range c.lines.length).all (okAt c.lines) = true) ↔ OkUp c.lines c.lines.length := by
    rw [List.all_eq_true]
    constructor
    · intro h i x hi hx
      have := h i (List.mem_range.2 hi)
      unfold okAt at this
      rw [Bool.and_eq_true, List.all_eq_true, getD_of hx] at this
      refine ⟨this.1, fun j y hj hy => ?_⟩
      have h2 := this.2 j (List.mem_range.2 hj)
      rw [getD_of hy] at h2
      simpa using h2
    · intro h i hi
      have hi' := List.mem_range.1 hi
      obtain ⟨x, hx⟩ : ∃ x, c.lines[i]? = some x := ⟨_, List.getElem?_eq_getElem hi'⟩
      have h2 := h i x hi' hx
      unfold okAt
      rw [Bool.and_eq_true, List.all_eq_true, getD_of hx]
      refine ⟨h2.1, fun j hj => ?_⟩
      have hj' := List.mem_range.1 hj
      obtain ⟨y, hy⟩ : ∃ y, c.lines[j]? = some y := ⟨_, List.getElem?_eq_getElem (by omega)⟩
      rw [getD_of hy, h2.2 j y hj' hy]
      rfl
  have h2 : (c.lines.any fun x => !x.wired) = looseUp c.lines c.lines.length := by
    unfold looseUp; rw [List.take_length]
  rw [h1, h2]

theorem okUp_succ {xs : List LineD} {k : Nat} {x : LineD} (h : OkUp xs k) (hx : xs[k]? = some x) (hv : lineV x = true) (hc : ∀ j y, j < k → xs[j]? = some y → clashB x y = false) : OkUp xs (k + 1) := by
  intro i z hi hz
  by_cases e : i = k
  · subst e
    rw [hx] at hz
    injection hz with hz
    subst hz
    exact ⟨hv, hc⟩
  · exact h i z (by omega) hz

theorem cacheV_bad_line {c : CacheD} {k : Nat} {x : LineD} (hx : c.lines[k]? = some x) (hv : lineV x = false) : cacheV c = false := by
  cases h : cacheV c
  · rfl
  · have := ((cacheV_iff c).1 h).2.1 k x (getElem?_lt hx) hx
    rw [hv] at this
    cases this.1
theorem cacheV_bad_clash {c : CacheD} {k j : Nat} {x y : LineD} (hx : c.lines[k]? = some x) (hy : c.lines[j]? = some y) (hj : j < k) (hv : clashB x y = true) : cacheV c = false := by
  cases h : cacheV c
  · rfl
  · have := (((cacheV_iff c).1 h).2.1 k x (getElem?_lt hx) hx).2 j y hj hy
    rw [hv] at this
    cases this
theorem cacheV_bad_size {c : CacheD} (h : ¬ (1 ≤ c.lines.length ∧ c.lines.length ≤ 8 ∧ 0 ≤ c.hand ∧ c.hand < c.lines.length)) : cacheV c = false := by
  cases h2 : cacheV c
  · rfl
  · exact absurd ((cacheV_iff c).1 h2).1 h
theorem cacheV_end {c : CacheD} (h1 : 1 ≤ c.lines.length ∧ c.lines.length ≤ 8 ∧ 0 ≤ c.hand ∧ c.hand < c.lines.length) (h2 : OkUp c.lines c.lines.length) : cacheV c = looseUp c.lines c.lines.length := by
  rw [Bool.eq_iff_iff, cacheV_iff]
  exact ⟨fun h => h.2.2, fun h => ⟨h1, h2, h⟩⟩

set_option maxHeartbeats 2000000 in
theorem cacheValidI_c (t : CacheD) (A : Option Addr) (c : Nat) (w : World) (hx : Rd w A t.lines) (hn : t.lines.length ≤ 1048576) (hc : t.lines.length ≤ c) :
    Calls Tryd.prog 30 #[.agg #[.slice A t.lines.length c, .int .i64 t.hand]] w fun r w' => r = .returned (.bool (cacheV t)) ∧ Ex w w' := by
  have B1 := Lib.hid (fun k x => @cacheV_bad_line t k x)
  have B2 := Lib.hid (fun k j x y => @cacheV_bad_clash t k j x y)
  have B3 := Lib.hid (@cacheV_bad_size t)
  have B4 := Lib.hid (@cacheV_end t)
  obtain ⟨xs, hand⟩ := t
  simp only at B1 B2 B3 B4 hx hn hc ⊢
  generalize cacheV ⟨xs, hand⟩ = res at *
  obtain ⟨n, hn1⟩ : ∃ n, n = xs.length := ⟨_, rfl⟩
  have HN := Lib.hid hn1
  rw [← hn1] at B3 B4 hn hc ⊢
  have HX := Lib.hid hx
  clear hn1 hx
  by_cases g1 : n < 1
  · have g1' : (n : Int) < 1 := by omega
    obtain rfl : res = false := B3.out (by omega)
    go_enter Tryd.func30, Tryd.ntmps30
    go_wp2
    go_ret
    exact ⟨rfl, (Ex.refl _).alloc _⟩
  by_cases g2 : 8 < n
  · have g2' : (8 : Int) < (n : Int) := by omega
    have g1' : ¬ (n : Int) < 1 := by omega
    obtain rfl : res = false := B3.out (by omega)
    go_enter Tryd.func30, Tryd.ntmps30
    go_wp2
    go_ret
    exact ⟨rfl, (Ex.refl _).alloc _⟩
  have g1' : ¬ (n : Int) < 1 := by omega
  have g2' : ¬ (8 : Int) < (n : Int) := by omega
  cases g3 : inB hand n
  · have g4 := inB_false.1 g3
    obtain rfl : res = false := B3.out (by omega)
    clear g4
    go_enter Tryd.func30, Tryd.ntmps30
    go_wp2_with (go_at_call 41; refine (within_c _ _ _).mono ?_; rintro r w' ⟨rfl, rfl⟩)
    go_ret
    exact ⟨rfl, (Ex.refl _).alloc _⟩
  have g4 := inB_true.1 g3
  have HS : Hid (1 ≤ n ∧ n ≤ 8 ∧ 0 ≤ hand ∧ hand < n) := Lib.hid (by omega)
  clear g4
  go_enter Tryd.func30, Tryd.ntmps30
  go_wp2_with (go_at_call 41; refine (within_c _ _ _).mono ?_; rintro r w' ⟨rfl, rfl⟩)
  have hnc : (n : Int) ≤ (c : Int) := by omega
  obtain ⟨w0, hw0⟩ : ∃ w0 : World, w0 = w.alloc (.cells #[.slice A n c, .int .i64 hand] 41) := ⟨_, rfl⟩
  obtain ⟨gb, hgb⟩ : ∃ gb : Nat, gb = w.heap.size := ⟨_, rfl⟩
  have K0 : Hid (Blk w0 gb 41 [.slice A n c, .int .i64 hand]) := Lib.hid (by rw [hw0, hgb]; exact Blk.new w _ _)
  have E0 : Hid (Ex w w0) := Lib.hid (by rw [hw0]; exact (Ex.refl w).alloc _)
  rw [← hw0, ← hgb]
  clear hw0 hgb
  go_loopw [28, 4] (fun i l wr => ∃ k : Nat, k ≤ n ∧ i = .int .i64 k ∧ l = .bool (looseUp xs k) ∧ Ex w0 wr ∧ OkUp xs k) (fun i _ _ => n - (intOf i).toNat)
  case atStart => exact ⟨0, Nat.zero_le _, rfl, by simp [looseUp], Ex.refl _, fun i x hi => by omega⟩
  case round =>
    obtain ⟨k, hk, rfl, rfl, hbel, hok⟩ := hrel
    have HB := Lib.hid hbel
    have HOK := Lib.hid hok
    clear hbel hok
    obtain ⟨q0, q1⟩ := (K0.out.ex HB.out).c2
    have lb := (K0.out.ex HB.out).lt
    by_cases hlt : k < n
    · obtain ⟨b1, o1, x, rfl, hb1, hxk, h0, h1, h2, h3, h4, h5⟩ := Rd.line ((HX.out.ex E0.out).ex HB.out) (k := k) (by have := HN.out; omega)
      have HXK := Lib.hid hxk
      clear hxk
      go_wp2_with fail
      refine (lineValid_c x _).mono ?_
      rintro r w2 ⟨rfl, hb2⟩
      have HB2 : Hid (Ex wr w2) := Lib.hid ((((Ex.refl wr).alloc _)).trans hb2)
      have KX : Hid (Blk w2 wr.heap.size 74 [.bool x.valid, .int .i64 x.tag, .int .i64 x.page, .int .i64 x.frame, .int .i64 x.rights, .bool x.wired]) := Lib.hid ((Blk.new_at _ _ _ rfl).ex hb2)
      clear hb2 h0 h1 h2 h3 h4 h5 q0 q1
      obtain ⟨q0, q1⟩ := ((K0.out.ex HB.out).ex HB2.out).c2
      have lb2 := ((K0.out.ex HB.out).ex HB2.out).lt
      cases hv : lineV x
      · obtain rfl : res = false := B1.out k x HXK.out hv
        go_wp2
        go_ret
        exact ⟨rfl, (E0.out.trans HB.out).trans HB2.out⟩
      · have HV := Lib.hid hv
        obtain ⟨gx, hgx⟩ : ∃ gx : Nat, gx = wr.heap.size := ⟨_, rfl⟩
        rw [← hgx] at KX ⊢
        clear hgx
        go_wp2_with fail
        clear hv
        have HE2 : Hid (Ex w w2) := Lib.hid ((E0.out.trans HB.out).trans HB2.out)
        have HX2 : Hid (Rd w2 (some ⟨b1, o1, none⟩) xs) := Lib.hid (HX.out.ex HE2.out)
        have KB2 : Hid (Blk w2 gb 41 [.slice (some ⟨b1, o1, none⟩) n c, .int .i64 hand]) := Lib.hid ((K0.out.ex HB.out).ex HB2.out)
        have HC : Hid (∀ (j : Nat) (y : LineD), j < 0 → xs[j]? = some y → clashB x y = false) := Lib.hid (fun j y h => by omega)
        clear q0 q1 lb2 lb
        have HW : Hid (Ex w0 w2) := Lib.hid (HB.out.trans HB2.out)
        clear HB2 HB
        go_loopw [41] (fun j wi => ∃ m : Nat, m ≤ k ∧ j = .int .i64 m ∧ Ex w2 wi ∧ ∀ (j : Nat) (y : LineD), j < m → xs[j]? = some y → clashB x y = false) (fun j _ => k - (intOf j).toNat)
        case atStart => exact ⟨0, Nat.zero_le _, rfl, Ex.refl _, HC.out⟩
        case round =>
          obtain ⟨m, hm, rfl, hbi, hcl⟩ := hrel
          have HBI := Lib.hid hbi
          have HCL := Lib.hid hcl
          clear hbi hcl
          obtain ⟨p0, p1, p2, p3, p4, p5⟩ := (KX.out.ex HBI.out).c6
          have lx := (KX.out.ex HBI.out).lt
          obtain ⟨q0, q1⟩ := (KB2.out.ex HBI.out).c2
          have lb := (KB2.out.ex HBI.out).lt
          by_cases hlm : m < k
          · obtain ⟨y, hb1', hyk, y0, y1, y2, y3, y4, y5⟩ := Rd.line_known (HX2.out.ex HBI.out) (k := m) (by have := HN.out; omega)
            have HYK := Lib.hid hyk
            clear hyk
            go_wp2_with fail
            refine (clash_c x y _).mono ?_
            rintro r w3 ⟨rfl, hb3⟩
            have HB3 : Hid (Ex wr w3) := Lib.hid ((((Ex.refl wr).alloc _)).trans hb3)
            clear hb3 y0 y1 y2 y3 y4 y5 p0 p1 p2 p3 p4 p5 q0 q1
            cases hcy : clashB x y
            · have HCY := Lib.hid hcy
              go_wp2
              go_roundw
              case rel => exact ⟨m + 1, by omega, by go_num, HBI.out.trans HB3.out, fun j z hj hz => by
                by_cases e : j = m
                · subst e
                  have := HYK.out
                  rw [this] at hz
                  injection hz with hz
                  rw [← hz]; exact HCY.out
                · exact HCL.out j z (by omega) hz⟩
              case measure => simp [intOf]; omega
            · obtain rfl : res = false := B2.out k m x y HXK.out HYK.out hlm hcy
              go_wp2
              go_ret
              exact ⟨rfl, (HE2.out.trans HBI.out).trans HB3.out⟩
          · obtain rfl : m = k := by omega
            have HOK2 : Hid (OkUp xs (m + 1)) := Lib.hid (okUp_succ HOK.out HXK.out HV.out HCL.out)
            have HLU := Lib.hid (looseUp_succ HXK.out)
            generalize looseUp xs m = lo at *
            cases lo <;> cases hw : x.wired
            all_goals
              rw [hw] at p5
              go_wp2
              go_roundw
              case rel => exact ⟨m + 1, by omega, by go_num, by rw [HLU.out, hw]; rfl, HW.out.trans HBI.out, HOK2.out⟩
              case measure => simp [intOf]; omega
    · obtain rfl : k = n := by omega
      have HR : Hid (res = looseUp xs k) := Lib.hid (B4.out (by have := HS.out; omega) HOK.out)
      go_wp2
      go_ret
      exact ⟨ret_bool HR.out.symm, E0.out.trans HB.out⟩
end Go.Proofs.YtihlaecbdlgbiaaDoor
