/- The reference's CacheValid: the walk. -/
import Derived.Test.YtihlaecbdlgbiaaDoorCw
namespace Go.Proofs.YtihlaecbdlgbiaaDoor
open Go.ChangeShapes Go.WideShapes Go.ChangeAt Go.RowKit
open Rec (sz cs)
set_option linter.unusedVariables false
set_option maxRecDepth 100000

/-- How many of the first k lines are not wired. -/
def freeUp (xs : List LineD) (k : Nat) : Nat := (xs.take k).countP fun x => !x.wired
theorem freeUp_succ {xs : List LineD} {k : Nat} {x : LineD} (h : xs[k]? = some x) : freeUp xs (k + 1) = freeUp xs k + (if x.wired then 0 else 1) := by
  unfold freeUp
  rw [take_succ_of h, List.countP_append]
  cases hw : x.wired <;> simp [hw]
theorem freeUp_le (xs : List LineD) (k : Nat) : freeUp xs k ≤ k := by
  unfold freeUp
  have := List.countP_le_length (p := fun x : LineD => !x.wired) (l := xs.take k)
  rw [List.length_take] at this
  omega
theorem freeUp_loose (xs : List LineD) (k : Nat) : looseUp xs k = decide ((0 : Int) < (freeUp xs k : Int)) := by
  unfold freeUp looseUp
  rw [Bool.eq_iff_iff, decide_eq_true_iff]
  have := List.countP_pos_iff (p := fun x : LineD => !x.wired) (l := xs.take k)
  rw [List.any_eq_true]
  constructor
  · rintro ⟨x, h1, h2⟩
    have := this.2 ⟨x, h1, h2⟩
    omega
  · intro h
    obtain ⟨x, h1, h2⟩ := this.1 (by omega)
    exact ⟨x, h1, h2⟩

set_option maxHeartbeats 2000000 in
theorem cacheValidS_c (t : CacheD) (A : Option Addr) (c : Nat) (w : World) (hx : Rd w A t.lines) (hn : t.lines.length ≤ 1048576) (hc : t.lines.length ≤ c) :
    Calls Tryd.prog 22 #[.agg #[.slice A t.lines.length c, .int .i64 t.hand]] w fun r w' => r = .returned (.bool (cacheV t)) ∧ Ex w w' := by
  have B1 := Lib.hid (fun k x => @cacheV_bad_line t k x)
  have B2 := Lib.hid (fun k j x y => @cacheV_bad_clash t k j x y)
  have B3 := Lib.hid (@cacheV_bad_size t)
  have B4 := Lib.hid (@cacheV_end t)
  obtain ⟨xs, hand⟩ := t
  simp only at B1 B2 B3 B4 hx hn hc ⊢
  generalize cacheV ⟨xs, hand⟩ = res at *
  obtain ⟨n, hn1⟩ : ∃ n, n = xs.length := ⟨_, rfl⟩
  have HN := Lib.hid hn1
  rw [← hn1] at B3 B4 hn hc ⊢
  have HX := Lib.hid hx
  clear hn1 hx
  by_cases g1 : n < 1
  · have g1' : (n : Int) < 1 := by omega
    obtain rfl : res = false := B3.out (by omega)
    go_enter Tryd.func22, Tryd.ntmps22
    go_wp2
    go_ret
    exact ⟨rfl, (Ex.refl _).alloc _⟩
  by_cases g2 : 8 < n
  · have g2' : (8 : Int) < (n : Int) := by omega
    have g1' : ¬ (n : Int) < 1 := by omega
    obtain rfl : res = false := B3.out (by omega)
    go_enter Tryd.func22, Tryd.ntmps22
    go_wp2
    go_ret
    exact ⟨rfl, (Ex.refl _).alloc _⟩
  have g1' : ¬ (n : Int) < 1 := by omega
  have g2' : ¬ (8 : Int) < (n : Int) := by omega
  by_cases g3 : hand < 0
  · obtain rfl : res = false := B3.out (by omega)
    go_enter Tryd.func22, Tryd.ntmps22
    go_wp2
    go_ret
    exact ⟨rfl, (Ex.refl _).alloc _⟩
  by_cases g4 : (n : Int) ≤ hand
  · have g3' : 0 ≤ hand := by omega
    obtain rfl : res = false := B3.out (by omega)
    go_enter Tryd.func22, Tryd.ntmps22
    go_wp2
    go_ret
    exact ⟨rfl, (Ex.refl _).alloc _⟩
  have g3' : 0 ≤ hand := by omega
  have g4' : hand < n := by omega
  have HS : Hid (1 ≤ n ∧ n ≤ 8 ∧ 0 ≤ hand ∧ hand < n) := Lib.hid (by omega)
  clear g3 g4
  go_enter Tryd.func22, Tryd.ntmps22
  go_wp2
  obtain ⟨w0, hw0⟩ : ∃ w0 : World, w0 = w.alloc (.cells #[.slice A n c, .int .i64 hand] 41) := ⟨_, rfl⟩
  obtain ⟨gb, hgb⟩ : ∃ gb : Nat, gb = w.heap.size := ⟨_, rfl⟩
  have K0 : Hid (Blk w0 gb 41 [.slice A n c, .int .i64 hand]) := Lib.hid (by rw [hw0, hgb]; exact Blk.new w _ _)
  have E0 : Hid (Ex w w0) := Lib.hid (by rw [hw0]; exact (Ex.refl w).alloc _)
  rw [← hw0, ← hgb]
  clear hw0 hgb
  go_loopw [4, 3] (fun i f wr => ∃ k : Nat, k ≤ n ∧ i = .int .i64 k ∧ f = .int .i64 (freeUp xs k) ∧ Ex w0 wr ∧ OkUp xs k) (fun i _ _ => n - (intOf i).toNat)
  case atStart => exact ⟨0, Nat.zero_le _, rfl, by simp [freeUp], Ex.refl _, fun i x hi => by omega⟩
  case round =>
    obtain ⟨k, hk, rfl, rfl, hbel, hok⟩ := hrel
    have HB := Lib.hid hbel
    have HOK := Lib.hid hok
    clear hbel hok
    obtain ⟨q0, q1⟩ := (K0.out.ex HB.out).c2
    have lb := (K0.out.ex HB.out).lt
    by_cases hlt : k < n
    · obtain ⟨b1, o1, x, rfl, hb1, hxk, h0, h1, h2, h3, h4, h5⟩ := Rd.line ((HX.out.ex E0.out).ex HB.out) (k := k) (by have := HN.out; omega)
      have HXK := Lib.hid hxk
      clear hxk
      go_wp2_with fail
      refine (l4Line_c x _).mono ?_
      rintro r w2 ⟨rfl, hb2⟩
      have HB2 : Hid (Ex wr w2) := Lib.hid ((((Ex.refl wr).alloc _)).trans hb2)
      have KX : Hid (Blk w2 wr.heap.size 74 [.bool x.valid, .int .i64 x.tag, .int .i64 x.page, .int .i64 x.frame, .int .i64 x.rights, .bool x.wired]) := Lib.hid ((Blk.new_at _ _ _ rfl).ex hb2)
      clear hb2 h0 h1 h2 h3 h4 h5 q0 q1
      cases hv : lineV x
      · obtain rfl : res = false := B1.out k x HXK.out hv
        go_wp2
        go_ret
        exact ⟨rfl, (E0.out.trans HB.out).trans HB2.out⟩
      · have HV := Lib.hid hv
        obtain ⟨gx, hgx⟩ : ∃ gx : Nat, gx = wr.heap.size := ⟨_, rfl⟩
        rw [← hgx] at KX ⊢
        clear hgx
        obtain ⟨p0, p1, p2, p3, p4, p5⟩ := KX.out.c6
        have lx := KX.out.lt
        have HE2 : Hid (Ex w w2) := Lib.hid ((E0.out.trans HB.out).trans HB2.out)
        have HX2 : Hid (Rd w2 (some ⟨b1, o1, none⟩) xs) := Lib.hid (HX.out.ex HE2.out)
        have KB2 : Hid (Blk w2 gb 41 [.slice (some ⟨b1, o1, none⟩) n c, .int .i64 hand]) := Lib.hid ((K0.out.ex HB.out).ex HB2.out)
        have HC : Hid (∀ (j : Nat) (y : LineD), j < 0 → xs[j]? = some y → clashB x y = false) := Lib.hid (fun j y h => by omega)
        have HW : Hid (Ex w0 w2) := Lib.hid (HB.out.trans HB2.out)
        have HFS := Lib.hid (freeUp_succ HXK.out)
        have hfl := freeUp_le xs k
        have HFU : Hid (∃ fu, fu = freeUp xs (k + 1) ∧ fu ≤ 10) := Lib.hid ⟨_, rfl, by have := freeUp_le xs (k + 1); omega⟩
        generalize freeUp xs k = fk at *
        clear HB2 HB lb hv
        have hfk : fk ≤ 10 := by omega
        clear hfl
        cases hwi : x.wired
        all_goals
          rw [hwi] at p5
          go_wp2_with fail
          clear p0 p1 p2 p3 p4 p5 lx
          go_loopw [6] (fun j wi => ∃ m : Nat, m ≤ k ∧ j = .int .i64 m ∧ Ex w2 wi ∧ ∀ (j : Nat) (y : LineD), j < m → xs[j]? = some y → clashB x y = false) (fun j _ => k - (intOf j).toNat)
          case atStart => exact ⟨0, Nat.zero_le _, rfl, Ex.refl _, HC.out⟩
          case round =>
            obtain ⟨m, hm, rfl, hbi, hcl⟩ := hrel
            have HBI := Lib.hid hbi
            have HCL := Lib.hid hcl
            clear hbi hcl
            obtain ⟨p0, p1, p2, p3, p4, p5⟩ := (KX.out.ex HBI.out).c6
            have lx := (KX.out.ex HBI.out).lt
            obtain ⟨q0, q1⟩ := (KB2.out.ex HBI.out).c2
            have lb := (KB2.out.ex HBI.out).lt
            by_cases hlm : m < k
            · obtain ⟨y, hb1', hyk, y0, y1, y2, y3, y4, y5⟩ := Rd.line_known (HX2.out.ex HBI.out) (k := m) (by have := HN.out; omega)
              have HYK := Lib.hid hyk
              clear hyk
              have hmn : (m : Int) < (n : Int) := by omega
              rcases clash_split x y with ⟨c1, e⟩ | ⟨c1, c2, e⟩ | ⟨c1, c2, c3, e⟩ | ⟨c1, c2, c3, c4, e⟩ | ⟨c1, c2, c3, c4, c5, e⟩ | ⟨c1, c2, c3, c4, c5, c6, e⟩ | ⟨c1, c2, c3, c4, c5, c6, e⟩
              all_goals
                have HCY := Lib.hid e
                clear e
                first
                  | (obtain rfl : res = false := B2.out k m x y HXK.out HYK.out hlm HCY.out
                     go_wp2
                     go_ret
                     exact ⟨rfl, (HE2.out.trans HBI.out).alloc _⟩)
                  | (go_wp2
                     go_roundw
                     case rel => exact ⟨m + 1, by omega, by go_num, HBI.out.alloc _, fun j z hj hz => by
                       by_cases e : j = m
                       · subst e
                         have := HYK.out
                         rw [this] at hz
                         injection hz with hz
                         rw [← hz]; exact HCY.out
                       · exact HCL.out j z (by omega) hz⟩
                     case measure => simp [intOf]; omega)
            · obtain rfl : m = k := by omega
              have HOK2 : Hid (OkUp xs (m + 1)) := Lib.hid (okUp_succ HOK.out HXK.out HV.out HCL.out)
              go_wp2
              go_roundw
              case rel => exact ⟨m + 1, by omega, by go_num, by rw [HFS.out]; simp [hwi], HW.out.trans HBI.out, HOK2.out⟩
              case measure => simp [intOf]; omega
    · obtain rfl : k = n := by omega
      have HR : Hid (res = looseUp xs k) := Lib.hid (B4.out (by have := HS.out; omega) HOK.out)
      have HFL := Lib.hid (freeUp_loose xs k)
      generalize freeUp xs k = fk at *
      go_wp2
      go_ret
      exact ⟨ret_bool (by rw [HR.out, HFL.out]; simp), E0.out.trans HB.out⟩
end Go.Proofs.YtihlaecbdlgbiaaDoor
